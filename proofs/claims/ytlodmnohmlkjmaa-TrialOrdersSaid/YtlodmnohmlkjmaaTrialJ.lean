/- trial.Judge. -/
import Derived.Test.YtlodmnohmlkjmaaTrialT
import Derived.Test.YtlodmnohmlkjmaaCat
import Derived.Test.YtlodmnohmlkjmaaCmp44
import Derived.Test.YtlodmnohmlkjmaaNear
import Derived.Deep.CutRange
import Derived.StillTailTactics
namespace Go.Proofs.Ytlodmnohmlkjmaa
open Go.RowKit
set_option linter.unusedSimpArgs false
set_option linter.unusedVariables false
set_option maxHeartbeats 4000000
set_option maxRecDepth 100000

theorem slice_keep {α : Type} {w w' : World} {size : Nat} {cells : α → List Value} {A : Option Addr} {len cap : Nat} {l : List α} (h : SliceIs w size cells A len cap l) (hb : Below w.heap.size w w') : SliceIs w' size cells A len cap l := by
  refine ⟨h.1, h.2.1, h.2.2.1, h.2.2.2.1, fun a ha => ?_⟩
  obtain ⟨h1, h2⟩ := h.2.2.2.2 a ha
  refine ⟨fun i x hi j v hj => ?_, fun hl => ⟨Nat.lt_of_lt_of_le (h2 hl).1 hb.size, (h2 hl).2⟩⟩
  have hlt : a.block < w.heap.size := by
    refine (h2 ?_).1
    have := (List.getElem?_eq_some_iff.1 hi).1
    rw [← h.1]; omega
  have hbl : (a.add (i * size + j)).block = a.block := by unfold Addr.add; split <;> rfl
  have := h1 i x hi j v hj
  exact (World.cell?_of_block (w := w) (hb.block _ (by rw [hbl]; exact hlt))).trans this
theorem Own.far {α : Type} {w : World} {base e size : Nat} {cells : α → List Value} {v : Value} {l : List α} (h : Own w base e size cells v l) {p : Addr} (hp : ∀ k, v.ownBlock = some k → k ≠ p.block) (u : Value) : Own (w.setCell p u) base e size cells v l := by
  refine ⟨h.1, ?_⟩
  rcases h.2 with hn | ⟨g, cap, cur, rfl, hbg, hg, rest⟩
  · exact .inl hn
  · exact .inr ⟨g, cap, cur, rfl, hbg, (Below.heap_setCell w p u g (hp g rfl)).trans hg, rest⟩
structure J4 where
  least : Int
  most : Int
  spare : Int
  short : Int
def leftq (T : Int) (x : Adv) : Int := satq (satq (x.repl * T) - x.load)
def j4step (T : Int) (i : Nat) (s : J4) (x : Adv) : J4 :=
  ⟨if i = 0 then x.repl else min s.least x.repl, if i = 0 then x.repl else max s.most x.repl, if 0 ≤ leftq T x then satq (s.spare + leftq T x) else s.spare, if 0 ≤ leftq T x then s.short else satq (s.short + satq (0 - leftq T x))⟩
def j4 (T : Int) (l : List Adv) : Nat → J4
  | 0 => ⟨0, 0, 0, 0⟩
  | k + 1 => match l[k]? with
    | some x => j4step T k (j4 T l k) x
    | none => j4 T l k
theorem j4_succ {T : Int} {l : List Adv} {k : Nat} {x : Adv} (h : l[k]? = some x) : j4 T l (k + 1) = j4step T k (j4 T l k) x := by
  show (match l[k]? with | some x => j4step T k (j4 T l k) x | none => j4 T l k) = _
  rw [h]
theorem info_adv : (Try.prog.info? 88).map (fun i => (i.zero, i.size, i.bytes)) = some (some (.agg #[.int .i64 0, .int .i64 0, .int .i64 0, .int .i64 0, .int .i64 0]), 5, 40) := by kernel_rfl
abbrev OwnA (w : World) (base : Nat) (v : Value) (l : List Adv) : Prop := Own w base 88 5 Adv.cells v l
theorem adv_one : ∀ x : Adv, ∀ u ∈ x.cells, u.oneCell' = true := by
  intro x u hu
  simp [Adv.cells] at hu
  rcases hu with rfl | rfl | rfl | rfl | rfl <;> rfl
theorem cat_adv {ops : Array Oper} {rest : List Oper} {o : Oper} {a : Act} {Q : Exit → Act → World → Prop} (w : World) (hgd : o.guard = none) (s x : Operand)
    (ho : o.op = .call { callee := .builtin .append, args := #[s, x], argTypes := #[60, 60] }) (base : Nat) (v : Value) (l : List Adv) (hs : a.eval s = v) (hown : OwnA w base v l)
    (A : Option Addr) (m c : Nat) (ys : List Adv) (hx : a.eval x = .slice A m c) (hys : AdvsAre w A m c ys) (hlen : l.length + m < 1000000) (hbase : base ≤ w.heap.size)
    (h : ∀ v' w', OwnA w' base v' (l ++ ys) → Below base w w' → w.grownBy w' v.ownBlock → wpList Try.prog ops Q rest (a.put o.dst v') w') : wpList Try.prog ops Q (o :: rest) a w :=
  wpList_cat w hgd s x _ ho base 88 _ 5 40 _ Try.underlying60 info_adv (by rfl) (by decide) (fun _ => rfl) adv_one v l hs hown A m c ys hx hys hlen (by decide) hbase h
theorem j4_I64 (T : Int) (l : List Adv) (hg : ∀ x ∈ l, x.good) (k : Nat) : I64 (j4 T l k).spare ∧ I64 (j4 T l k).short := by
  induction k with
  | zero => exact ⟨by unfold j4 I64; simp, by unfold j4 I64; simp⟩
  | succ k ih =>
    cases hx : l[k]? with
    | none =>
      have : j4 T l (k + 1) = j4 T l k := by
        show (match l[k]? with | some x => j4step T k (j4 T l k) x | none => j4 T l k) = _
        rw [hx]
      rw [this]; exact ih
    | some x =>
      rw [j4_succ hx]
      unfold j4step
      simp only
      split
      · exact ⟨satq_I64 _, ih.2⟩
      · exact ⟨ih.1, satq_I64 _⟩
theorem Blk.new_set2 (w : World) (gr i j : Nat) (u u2 : Value) (t : TypeId) (cs : Array Value) : Blk ((((w.setCell ⟨gr, i, none⟩ u).setCell ⟨gr, j, none⟩ u2).alloc (.cells cs t)).drew) w.heap.size t cs := by
  have := Blk.new ((w.setCell ⟨gr, i, none⟩ u).setCell ⟨gr, j, none⟩ u2) t cs
  simpa using this.drew
theorem Own.grown {α : Type} {w w' : World} {base e size : Nat} {cells : α → List Value} {v : Value} {l : List α} (h : Own w base e size cells v l) {g : Nat} (hg : w.grownBy w' (some g)) (hne : ∀ k, v.ownBlock = some k → k ≠ g) : Own w' base e size cells v l := by
  refine ⟨h.1, ?_⟩
  have hlt := World.ownsRow.lt h
  rcases h.2 with hn | ⟨b, cap, cur, rfl, hbg, hb, rest⟩
  · exact .inl hn
  · exact .inr ⟨b, cap, cur, rfl, hbg, (hg.block b (hlt b rfl).2 (fun e => hne b rfl (Option.some.inj e))).trans hb, rest⟩
abbrev z64 : Array Value := #[.slice none 0 0, .int .i64 0, .int .i64 0, .int .i64 0, .int .i64 0, .int .i64 0, .int .i64 0]
def JI (w wr : World) (p : Pol) (gr : Nat) (v : Value) (l : List Adv) (c : Array Value) : Prop :=
  Blk wr w.heap.size 23 p.row ∧ Blk wr (w.heap.size + 1) 64 z64 ∧ Blk wr gr 64 c ∧ OwnA wr (w.heap.size + 2) v l ∧ Below w.heap.size w wr ∧ w.heap.size + 1 < gr ∧ ∀ k, v.ownBlock = some k → k < gr
theorem JI.alloc {w wr : World} {p : Pol} {gr : Nat} {v : Value} {l : List Adv} {c : Array Value} (h : JI w wr p gr v l c) (o : Obj) : JI w (wr.alloc o) p gr v l c :=
  ⟨h.1.alloc o, h.2.1.alloc o, h.2.2.1.alloc o, h.2.2.2.1.alloc o, h.2.2.2.2.1.alloc h.2.2.2.2.1.size o, h.2.2.2.2.2⟩
theorem JI.drewN {w wr : World} {p : Pol} {gr : Nat} {v : Value} {l : List Adv} {c : Array Value} (h : JI w wr p gr v l c) (n : Nat) : JI w (wr.drewN n) p gr v l c :=
  ⟨h.1, h.2.1, h.2.2.1, h.2.2.2.1, below_drewN h.2.2.2.2.1 n, h.2.2.2.2.2⟩
theorem JI.drew {w wr : World} {p : Pol} {gr : Nat} {v : Value} {l : List Adv} {c : Array Value} (h : JI w wr p gr v l c) : JI w wr.drew p gr v l c :=
  ⟨h.1, h.2.1, h.2.2.1, h.2.2.2.1, h.2.2.2.2.1.drew, h.2.2.2.2.2⟩
theorem JI.set {w wr : World} {p : Pol} {gr : Nat} {v : Value} {l : List Adv} {c : Array Value} (h : JI w wr p gr v l c) (i : Nat) (u : Value) : JI w (wr.setCell ⟨gr, i, none⟩ u) p gr v l (c.setIfInBounds i u) :=
  ⟨h.1.far (by have := h.2.2.2.2.2.1; simp; omega) u, h.2.1.far (by have := h.2.2.2.2.2.1; simp; omega) u, h.2.2.1.set_ i u, Own.far h.2.2.2.1 (fun k hk => by have := h.2.2.2.2.2.2 k hk; simp; omega) u, h.2.2.2.2.1.setCell (by have := h.2.2.2.2.2.1; simp; omega) u, h.2.2.2.2.2⟩
theorem trial_Judge (p : Pol) (A : Option Addr) (len cap : Nat) (l : List Adv) (w : World) (hp : p.fit) (hs : AdvsAre w A len cap l) (hg : ∀ x ∈ l, x.good) (hn : len ≤ 1000) :
    Calls Try.prog 43 #[(.agg #[.int .i64 p.min, .int .i64 p.max, .int .i64 p.target, .int .i64 p.tol, .int .i64 p.window, .int .i64 p.hold]), .slice A len cap] w fun e w' => ∃ v, e = .returned (.agg #[v, .int .i64 (chq (replAt l) len : Nat), .int .i64 ((turnq (replAt l) len).1 : Nat), .int .i64 (j4 p.target l len).least, .int .i64 (j4 p.target l len).most, .int .i64 (j4 p.target l len).spare, .int .i64 (j4 p.target l len).short]) ∧ OwnA w' w.heap.size v l ∧ Below w.heap.size w w' := by
  have HS := Lib.hid hs
  have HG := Lib.hid hg
  clear hs hg
  have e0 : Below w.heap.size w ((w.alloc (.cells p.row 23)).alloc (.cells #[.slice none 0 0, .int .i64 0, .int .i64 0, .int .i64 0, .int .i64 0, .int .i64 0, .int .i64 0] 64)) := by go_grown
  have E0 := Lib.hid e0
  clear e0
  go_enter Try.func43, Try.ntmps43
  go_wp2_with (first | (at_builtin; refine cat_adv _ rfl _ _ rfl (w.heap.size + 2) (.slice none 0 0) [] rfl (Own.nil _ _ _ _ _) A len cap l rfl (slice_keep HS.out E0.out) (by simp; omega) (by simp) ?_; intro v1 w1 ho1 hb1 hg1))
  have hc1 := (Below.refl ((w.alloc (.cells p.row 23)).alloc (.cells #[.slice none 0 0, .int .i64 0, .int .i64 0, .int .i64 0, .int .i64 0, .int .i64 0, .int .i64 0] 64)).heap.size _).grown hg1 (Nat.le_refl _) (fun k hk => by simp [Value.ownBlock] at hk)
  rw [List.nil_append] at ho1
  obtain ⟨A1, cp1, rfl, -⟩ := ho1.slice (fun _ => rfl)
  have E1 := Lib.hid (E0.out.trans (hc1.mono E0.out.size))
  clear hb1 hg1
  refine (history_Changes A len cap l _ (slice_keep HS.out E1.out) hn).mono ?_
  rintro e w2 ⟨rfl, hb2⟩
  have E2 := Lib.hid (E1.out.trans (hb2.mono E1.out.size))
  go_wp2_with fail
  refine (steady_Turns A len cap l _ (slice_keep HS.out E2.out) hn).mono ?_
  rintro e w3 ⟨rfl, hb3⟩
  have E3 := Lib.hid (E2.out.trans (hb3.mono E2.out.size))
  have b0 := ((((Blk.new w 23 p.row).alloc (.cells #[.slice none 0 0, .int .i64 0, .int .i64 0, .int .i64 0, .int .i64 0, .int .i64 0, .int .i64 0] 64)).call hc1).call hb2).call hb3
  have b1 := (((Blk.new_ w (.cells p.row 23) 64 #[.slice none 0 0, .int .i64 0, .int .i64 0, .int .i64 0, .int .i64 0, .int .i64 0, .int .i64 0]).call hc1).call hb2).call hb3
  have o1 := (ho1.call hb2).call hb3
  have B0 := Lib.hid b0
  have B1 := Lib.hid b1
  have O1 := Lib.hid o1
  clear hc1 hb2 hb3 b0 b1 o1 ho1 E0 E1 E2
  go_wp2
  have hg1 : w.heap.size + 1 < w3.heap.size := B1.out.lt
  have HJI : JI w (w3.alloc (.cells #[.slice A1 l.length cp1, .int .i64 (chq (replAt l) len : Nat), .int .i64 ((turnq (replAt l) len).1 : Nat), .int .i64 0, .int .i64 0, .int .i64 0, .int .i64 0] 64)) p w3.heap.size (.slice A1 l.length cp1) l #[.slice A1 l.length cp1, .int .i64 (chq (replAt l) len : Nat), .int .i64 ((turnq (replAt l) len).1 : Nat), .int .i64 0, .int .i64 0, .int .i64 0, .int .i64 0] :=
    ⟨B0.out.alloc _, B1.out.alloc _, Blk.new w3 _ _, O1.out.alloc _, E3.out.alloc E3.out.size _, hg1, fun k hk => (World.ownsRow.lt O1.out k hk).2⟩
  clear B0 B1 O1 E3 hg1
  generalize hCH : chq (replAt l) len = CH at *
  generalize hTN : (turnq (replAt l) len).1 = TN at *
  have HCH := Lib.hid hCH
  have HTN := Lib.hid hTN
  clear hCH hTN
  generalize w3.heap.size = gr at *
  generalize w3.alloc (.cells #[.slice A1 l.length cp1, .int .i64 (CH : Int), .int .i64 (TN : Int), .int .i64 0, .int .i64 0, .int .i64 0, .int .i64 0] 64) = W4 at *
  go_loopw [18] (fun i wr => ∃ k : Nat, k ≤ len ∧ i = .int .i64 k ∧ JI w wr p gr (.slice A1 l.length cp1) l #[.slice A1 l.length cp1, .int .i64 (CH : Int), .int .i64 (TN : Int), .int .i64 (j4 p.target l k).least, .int .i64 (j4 p.target l k).most, .int .i64 (j4 p.target l k).spare, .int .i64 (j4 p.target l k).short]) (fun i _ => len - (intOf i).toNat)
  case atStart => exact ⟨0, Nat.zero_le _, rfl, HJI⟩
  case round =>
    obtain ⟨k, hk, rfl, hji⟩ := hrel
    clear HJI
    have JJ := Lib.hid hji
    by_cases hlt : k < len
    · obtain ⟨b, off, x, rfl, hx, hb, t0, t1, t2, t3, t4⟩ := HS.out.at_ hlt
      have hxg := HG.out x (List.mem_of_getElem? hx)
      have HJ := Lib.hid (j4_succ (T := p.target) hx)
      have hJi := j4_I64 p.target l HG.out k
      generalize j4 p.target l k = J at *
      have hbel := hji.2.2.2.2.1
      have br := hji.2.2.1
      have kt0 := (hbel.cell (p := ⟨b, off + k * 5, none⟩) hb).trans t0
      have kt1 := (hbel.cell (p := ⟨b, off + k * 5 + 1, none⟩) hb).trans t1
      have kt2 := (hbel.cell (p := ⟨b, off + k * 5 + 2, none⟩) hb).trans t2
      have kt3 := (hbel.cell (p := ⟨b, off + k * 5 + 3, none⟩) hb).trans t3
      have kt4 := (hbel.cell (p := ⟨b, off + k * 5 + 4, none⟩) hb).trans t4
      have f3 := br.frozen 3
      have f4 := br.frozen 4
      have r3 := br.cellv (i := 3) (v := .int .i64 J.least) rfl
      have r4 := br.cellv (i := 4) (v := .int .i64 J.most) rfl
      have lt1 := br.lt
      have hki : (k : Int) < (len : Int) := by omega
      clear br hx hb t0 t1 t2 t3 t4 hji hbel
      obtain ⟨hxI, hxL⟩ : I64 x.repl ∧ I64 x.load := ⟨hxg.2.2.2.1, hxg.2.1⟩
      obtain ⟨M, hM⟩ : ∃ M, M = satq (x.repl * p.target) := ⟨_, rfl⟩
      obtain ⟨L, hL⟩ : ∃ L, L = satq (M - x.load) := ⟨_, rfl⟩
      have HL := Lib.hid (show leftq p.target x = L by unfold leftq; rw [hL, hM])
      have HMul := Lib.hid (fun W => sat_Mul x.repl p.target W hxI hp.2.2.1)
      have HSub := Lib.hid (fun W => sat_Sub M x.load W (by rw [hM]; exact satq_I64 _) hxL)
      rw [← hM] at HMul
      rw [← hL] at HSub
      have hLI : I64 L := by rw [hL]; exact satq_I64 _
      clear hM hL hxg
      obtain ⟨ls, hls⟩ : ∃ ls, ls = (if k = 0 then x.repl else J.least) := ⟨_, rfl⟩
      obtain ⟨ms, hms⟩ : ∃ ms, ms = (if k = 0 then x.repl else J.most) := ⟨_, rfl⟩
      have HLs := Lib.hid hls
      have HMs := Lib.hid hms
      clear hls hms
      go_upto_if 24 with (fail)
      go_cut [18] from 18 to 64 (fun s18 wx => s18 = .int .i64 k ∧ Blk wx wr.heap.size 88 x.cells.toArray ∧ JI w wx p gr (.slice A1 l.length cp1) l #[.slice A1 l.length cp1, .int .i64 (CH : Int), .int .i64 (TN : Int), .int .i64 ls, .int .i64 ms, .int .i64 J.spare, .int .i64 J.short])
      case first =>
        by_cases hk0 : k = 0
        · have d0 : ((k : Int) == 0) = true := by simp; omega
          have E1 := Lib.hid (show ls = x.repl by rw [HLs.out, if_pos hk0])
          have E2 := Lib.hid (show ms = x.repl by rw [HMs.out, if_pos hk0])
          clear hk0
          go_wp2
          go_region
          go_wp2
          go_meet
          case rel => exact ⟨rfl, Blk.new_set2 wr _ _ _ _ _ _ _, by rw [E1.out, E2.out]; exact (((JJ.out.set 3 _).set 4 _).alloc _).drew⟩
        · have d0 : ((k : Int) == 0) = false := by simp; omega
          have E1 := Lib.hid (show ls = J.least by rw [HLs.out, if_neg hk0])
          have E2 := Lib.hid (show ms = J.most by rw [HMs.out, if_neg hk0])
          clear hk0
          go_wp2
          go_meet
          case rel => exact ⟨rfl, Blk.new wr _ _, by rw [E1.out, E2.out]; exact JJ.out.alloc _⟩
      case rest =>
        obtain ⟨rfl, ba, hji2⟩ := hcut
        have JJ2 := Lib.hid hji2
        have BA := Lib.hid ba
        have br := hji2.2.2.1
        have a3 := ba.cellv (i := 3) (v := .int .i64 x.repl) rfl
        have f3 := br.frozen 3
        have f4 := br.frozen 4
        have r3 := br.cellv (i := 3) (v := .int .i64 ls) rfl
        have r4 := br.cellv (i := 4) (v := .int .i64 ms) rfl
        clear br ba hji2 JJ kt0 kt1 kt2 kt3 kt4
        go_upto_region 7 with (fail)
        go_cut [18] from 18 to 64 (fun s18 wy => s18 = .int .i64 k ∧ Blk wy wr.heap.size 88 x.cells.toArray ∧ JI w wy p gr (.slice A1 l.length cp1) l #[.slice A1 l.length cp1, .int .i64 (CH : Int), .int .i64 (TN : Int), .int .i64 (min ls x.repl), .int .i64 (max ms x.repl), .int .i64 J.spare, .int .i64 J.short])
        case first =>
          by_cases hc1 : x.repl < ls
          · by_cases hc2 : ms < x.repl
            ·
              have E1 := Lib.hid (show min ls x.repl = x.repl by omega)
              have E2 := Lib.hid (show max ms x.repl = x.repl by omega)
              go_region
              go_wp2
              go_meet
              case rel => exact ⟨rfl, ((BA.out.far (by simp; omega) _).far (by simp; omega) _).drew, by rw [E1.out, E2.out]; exact ((JJ2.out.set 3 _).set 4 _).drew⟩
  
            ·
              have E1 := Lib.hid (show min ls x.repl = x.repl by omega)
              have E2 := Lib.hid (show max ms x.repl = ms by omega)
              go_region
              go_wp2
              go_meet
              case rel => exact ⟨rfl, ((BA.out.far (by simp; omega) _).far (by simp; omega) _).drew, by rw [E1.out, E2.out]; exact ((JJ2.out.set 3 _).set 4 _).drew⟩
  
          · by_cases hc2 : ms < x.repl
            ·
              have E1 := Lib.hid (show min ls x.repl = ls by omega)
              have E2 := Lib.hid (show max ms x.repl = x.repl by omega)
              go_region
              go_wp2
              go_meet
              case rel => exact ⟨rfl, ((BA.out.far (by simp; omega) _).far (by simp; omega) _).drew, by rw [E1.out, E2.out]; exact ((JJ2.out.set 3 _).set 4 _).drew⟩
  
            ·
              have E1 := Lib.hid (show min ls x.repl = ls by omega)
              have E2 := Lib.hid (show max ms x.repl = ms by omega)
              go_region
              go_wp2
              go_meet
              case rel => exact ⟨rfl, ((BA.out.far (by simp; omega) _).far (by simp; omega) _).drew, by rw [E1.out, E2.out]; exact ((JJ2.out.set 3 _).set 4 _).drew⟩
  
        case rest =>
          obtain ⟨rfl, ba, hji3⟩ := hcut
          clear r3 r4 f3 f4 a3
          have JJ3 := Lib.hid hji3
          have br := hji3.2.2.1
          have bp := hji3.1
          have a3 := ba.cellv (i := 3) (v := .int .i64 x.repl) rfl
          have a1 := ba.cellv (i := 1) (v := .int .i64 x.load) rfl
          have p2 := bp.cellv (i := 2) (v := .int .i64 p.target) rfl
          have r5 := br.cellv (i := 5) (v := .int .i64 J.spare) rfl
          have r6 := br.cellv (i := 6) (v := .int .i64 J.short) rfl
          have f5 := br.frozen 5
          have f6 := br.frozen 6
          have HE := Lib.hid (show j4 p.target l (k + 1) = ⟨min ls x.repl, max ms x.repl, if 0 ≤ L then satq (J.spare + L) else J.spare, if 0 ≤ L then J.short else satq (J.short + satq (0 - L))⟩ by
            rw [HJ.out]; unfold j4step; rw [HL.out, HLs.out, HMs.out]
            split
            · congr 1 <;> omega
            · rfl)
          clear br ba bp hji3
          go_upto_region 8 with (fail)
          go_quiet ((first | (go_at_call 68; exact Calls.quiet_of_same ((HMul.out _).mono fun _ _ h => ⟨h.1, h.2.symm⟩)) | (go_at_call 65; exact Calls.quiet_of_same ((HSub.out _).mono fun _ _ h => ⟨h.1, h.2.symm⟩))))
          by_cases hLp : 0 ≤ L
          · have HA := Lib.hid (fun W => sat_Add J.spare L W hJi.1 hLI)
            go_wp2_with (first | (go_at_call 67; refine (HA.out _).mono ?_; rintro e w5 ⟨rfl, rfl⟩))
            go_roundw
            case rel => exact ⟨k + 1, by omega, by go_num, by rw [HE.out]; simp only [if_pos hLp]; exact (JJ3.out.set 5 _).drewN _⟩
            case measure => simp [intOf]; omega
          · have HS0 := Lib.hid (fun W => sat_Sub 0 L W (by unfold I64; omega) hLI)
            have HA := Lib.hid (fun W => sat_Add J.short (satq (0 - L)) W hJi.2 (satq_I64 _))
            generalize satq (0 - L) = K at *
            have JJ4 := Lib.hid (JJ3.out.drewN nq)
            have R6 := Lib.hid (JJ4.out.2.2.1.cellv (i := 6) (v := .int .i64 J.short) rfl)
            have L6 := Lib.hid JJ4.out.2.2.1.lt
            clear r5 r6 f5 f6 p2 a1 a3
            go_wp2
            generalize wc.drewN nq = W6 at *
            have f6 := JJ4.out.2.2.1.frozen 6
            have r6 := R6.out
            refine wp_region_any (by kernel_rfl) ?_; change wpAny _ _ _ _ _ _ _ (World.drew W6); refine any_of_anyG (late := fun j => [6].contains j) (S := fun w1 => Below W6.heap.size W6 w1) _ _ _ _ ?_
            have S0 := (Below.refl W6.heap.size W6).drew
            refine anyG_take (i := 0) (v := _) rfl (by kernel_rfl) (by kernel_rfl) (by kernel_rfl) (by kernel_rfl) rfl (by kernel_rfl) (fun j hj => by first | (simp at hj; done) | (simp at hj; simp; omega)) (fun _ _ _ h => h) (Or.inl ⟨by rfl, fun W1 hW1 => by first | rfl | (go_simp; done) | (go_simp; with_reducible rfl)⟩) (S0) ?_
            refine anyG_take (i := 1) (v := .int .i64 J.short) rfl (by kernel_rfl) (by kernel_rfl) (by kernel_rfl) (by kernel_rfl) rfl (by kernel_rfl) (fun j hj => by first | (simp at hj; done) | (simp at hj; simp; omega)) (fun _ _ _ h => h) (Or.inl ⟨by rfl, fun W1 hW1 => by have c := (hW1.cell (p := ⟨gr, 6, none⟩) L6.out).trans R6.out; go_simp⟩) (S0) ?_
            refine anyG_one (k := 2) (by kernel_rfl) rfl (by rfl) (fun Q2 hQ2 => ?_); go_wp2_with fail; refine hQ2 _ _ (fun _ => S0) ?_; clear hQ2 Q2
            refine anyG_one (k := 3) (by kernel_rfl) rfl (by rfl) (fun Q2 hQ2 => ?_); go_wp2_with (go_at_call 65; refine (HS0.out _).mono ?_; rintro e v1 ⟨rfl, rfl⟩); refine hQ2 _ _ (fun _ => S0) ?_; clear hQ2 Q2
            refine anyG_one (k := 4) (by kernel_rfl) rfl (by rfl) (fun Q2 hQ2 => ?_); go_wp2_with (go_at_call 67; refine (HA.out _).mono ?_; rintro e v1 ⟨rfl, rfl⟩); refine hQ2 _ _ (fun _ => S0) ?_; clear hQ2 Q2
            refine anyG_one (k := 5) (by kernel_rfl) rfl (by rfl) (fun Q2 hQ2 => ?_); go_wp2_with fail; refine hQ2 _ _ (fun _ => S0) ?_; clear hQ2 Q2
            refine anyG_of_any _ _ _ _ (by kernel_rfl) ?_
            refine any_one (k := 6) (by kernel_rfl) rfl (by rfl) (fun Q2 hQ2 => ?_); go_wp2_with fail; (try refine hQ2 _ _ ?_); (try clear hQ2 Q2)
            refine wpAny_done (by kernel_rfl) ?_ _
            go_wp2
            go_roundw
            case rel => exact ⟨k + 1, by omega, by go_num, by rw [HE.out]; rw [if_neg (show ¬ 0 ≤ L by omega), if_neg (show ¬ 0 ≤ L by omega)]; exact (JJ4.out.set 6 _).drew⟩
            case measure => simp [intOf]; omega
    · obtain rfl : k = len := by omega
      clear JJ
      have JB := Lib.hid hji
      clear hji
      go_wp2_with (first | (refine Blk.load rfl 64 (.tmp 5) rfl gr _ _ _ rfl JB.out.2.2.1 Try.underlying64 rfl (by kernel_rfl) ?_) | (refine wpList_store_row rfl 64 (.tmp 4) (.tmp 65) rfl (w.heap.size + 1) _ _ _ rfl rfl JB.out.2.1 (by rfl) (by kernel_rfl) (by simp [Value.oneCell']) ?_; intro w9 hb9 hg9))
      refine bodyPost_ret (results_row rfl _ _ (w.heap.size + 1) _ _ _ rfl hb9 Try.underlying64 rfl (by kernel_rfl)) rfl ⟨_, by rw [HCH.out, HTN.out], ?_, JB.out.2.2.2.2.1.trans (Only.below hg9 (by omega) JB.out.2.2.2.2.1.size)⟩
      exact (JB.out.2.2.2.1.grown hg9 (fun k hk => by have := (World.ownsRow.lt JB.out.2.2.2.1 k hk).1; omega)).mono (by omega)
end Go.Proofs.Ytlodmnohmlkjmaa
