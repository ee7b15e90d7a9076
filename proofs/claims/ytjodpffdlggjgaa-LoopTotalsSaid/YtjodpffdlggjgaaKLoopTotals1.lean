/- Several texts in one. -/
import Derived.Test.YtjodpffdlggjgaaKLoopKeeps7
import Derived.Test.YtjodpffdlggjgaaEqs
/- Chapter 55's law: LoopTotals. (fast region) -/
namespace Go.Proofs.Ytjodpffdlggjgaa
open Go.RowKit
set_option linter.unusedSimpArgs false
set_option linter.unusedVariables false
set_option maxHeartbeats 1000000
set_option maxRecDepth 100000
theorem eq_lrow (x : Rw) : ∀ W : World, (binOp .eql 74 (.agg x.row) (.agg x.row)).run Try.prog W = .ok (.bool true) W := by
  have h2 := eq_ints (t := 74) (by kernel_rfl) (by kernel_rfl) (by kernel_rfl) (by kernel_rfl) [.i64, .i64, .i64, .i64, .i64] [x.tick, x.comes, x.repl, x.serves, x.left] [x.tick, x.comes, x.repl, x.serves, x.left] (by kernel_rfl) (by kernel_rfl) (by kernel_rfl) _ _ rfl rfl true (by simp)
  exact fun W => (h2.2.1 W).trans rfl
/-- What the loop keeps: the rows, the want's block. -/
structure TtI (v wr : World) (A : Option Addr) (n c : Nat) (l : List Rw) (o : Rw) : Prop where
  own : Own wr (v.heap.size + 1) rwT 5 Rw.cells (.slice A n c) l
  blk : Blk wr v.heap.size rwT o.row
  bel : Below v.heap.size v wr
theorem TtI.sz {v wr : World} {A : Option Addr} {n c : Nat} {l : List Rw} {o : Rw} (h : TtI v wr A n c l o) : v.heap.size + 1 ≤ wr.heap.size := h.blk.lt
theorem TtI.start (v : World) : TtI v (v.alloc (.cells z5 rwT)) none 0 0 [] rw0 := ⟨Own.nil _ _ _ _ _, Blk.new _ _ _, by go_grown⟩
theorem TtI.set {v wr : World} {A : Option Addr} {n c : Nat} {l : List Rw} {o o' : Rw} (h : TtI v wr A n c l o) (i : Nat) (u : Value) (he : o.row.setIfInBounds i u = o'.row) : TtI v (wr.setCell ⟨v.heap.size, i, none⟩ u) A n c l o' :=
  ⟨h.own.far (fun k hk => by have := (World.ownsRow.lt h.own k hk).1; show k ≠ v.heap.size; omega) _, by rw [← he]; exact h.blk.set_ i u, h.bel.setCell (Nat.le_refl _) _⟩
theorem TtI.set5 {v wr : World} {A : Option Addr} {n c : Nat} {l : List Rw} {o : Rw} (h : TtI v wr A n c l o) (s : Rw) (m : Int) (hm : m = max o.repl s.repl) :
    TtI v (((((wr.setCell ⟨v.heap.size, 0, none⟩ (.int .i64 s.tick)).setCell ⟨v.heap.size, 4, none⟩ (.int .i64 s.left)).setCell ⟨v.heap.size, 1, none⟩ (.int .i64 (satq (o.comes + s.comes)))).setCell ⟨v.heap.size, 3, none⟩ (.int .i64 (satq (o.serves + s.serves)))).setCell ⟨v.heap.size, 2, none⟩ (.int .i64 m)) A n c l (totr o s) := by
  subst hm
  exact ((((h.set (o' := ⟨s.tick, o.comes, o.repl, o.serves, o.left⟩) 0 _ rfl).set (o' := ⟨s.tick, o.comes, o.repl, o.serves, s.left⟩) 4 _ rfl).set (o' := ⟨s.tick, satq (o.comes + s.comes), o.repl, o.serves, s.left⟩) 1 _ rfl).set (o' := ⟨s.tick, satq (o.comes + s.comes), o.repl, satq (o.serves + s.serves), s.left⟩) 3 _ rfl).set (o' := totr o s) 2 _ rfl
def TrailI (l : List Rw) (i : Nat) (x : Int) : Prop := (lngR (l.take (i + 1))).2 = i - x + (lngR (l.take (x + 1).toNat)).2
theorem lngR_two {l : List Rw} {k : Nat} {r : Rw} (h : l[k]? = some r) : (lngR (l.take (k + 1))).2 = if r.left = 0 then 0 else (lngR (l.take k)).2 + 1 := by rw [lngR_next h]; rfl
theorem lngR_one {l : List Rw} {k : Nat} {r : Rw} (h : l[k]? = some r) : (lngR (l.take (k + 1))).1 = max (lngR (l.take k)).1 (lngR (l.take (k + 1))).2 := by rw [lngR_next h]; rfl
theorem walk_LoopTotals (A : Option Addr) (len cap : Nat) (l : List Rw) (w : World) (hs : RwsAre w A len cap l) (hg : ∀ x ∈ l, x.good) :
    Calls Try.prog 10 #[.slice A len cap] w fun e w' => e = .returned (.bool true) ∧ Below w.heap.size w w' := by
  have HS := Lib.hid hs
  have HG := Lib.hid hg
  have HL := Lib.hid hs.1
  have hle : len ≤ cap := hs.2.1
  have hm : cap ≤ 9223372036854775807 := by have := hs.2.2.1; unfold maxLen at this; omega
  clear hs hg
  by_cases hl : 60 < len
  · have d0 : decide ((60 : Int) < (len : Int)) = true := by simp; omega
    go_enter Try.func10, Try.ntmps10
    go_wp2_with (go_at_call 35; refine (awake55 _).mono ?_; rintro e v1 ⟨rfl, hb1⟩; have D1 := Lib.hid hb1; clear hb1)
    go_ret
    exact ⟨rfl, D1.out⟩
  have d0 : decide ((60 : Int) < (len : Int)) = false := by simp; omega
  have hl60 : len ≤ 60 := by omega
  go_enter Try.func10, Try.ntmps10
  go_wp2_with (go_at_call 35; refine (awake55 _).mono ?_; rintro e v1 ⟨rfl, hb1⟩; have D1 := Lib.hid hb1; clear hb1)
  have S1 := Lib.hid (slice_keep HS.out D1.out)
  clear HS d0 hl
  go_loopw [3, 5, 17] (fun a lg i wr => ∃ k : Nat, ∃ A1 n1 c1, k ≤ len ∧ i = .int .i64 k ∧ a = .slice A1 n1 c1 ∧ lg = .int .i64 (lngR (l.take k)).1 ∧ TtI v1 wr A1 n1 c1 (l.take k) (totR (l.take k))) (fun _ _ i _ => len - (intOf i).toNat)
  case atStart => exact ⟨0, none, 0, 0, Nat.zero_le _, rfl, rfl, rfl, TtI.start v1⟩
  case round =>
    obtain ⟨k, A1, n1, c1, hk, rfl, rfl, rfl, hin⟩ := hrel
    have HI := Lib.hid hin
    clear hin
    by_cases hlt : k < len
    · obtain ⟨b, off, s, rfl, hx, hb, t0, t1, t2, t3, t4⟩ := RwsAre.row S1.out hlt
      have k0 := (HI.out.bel.cell (p := ⟨b, off + k * 5, none⟩) hb).trans t0
      have k1 := (HI.out.bel.cell (p := ⟨b, off + k * 5 + 1, none⟩) hb).trans t1
      have k2 := (HI.out.bel.cell (p := ⟨b, off + k * 5 + 2, none⟩) hb).trans t2
      have k3 := (HI.out.bel.cell (p := ⟨b, off + k * 5 + 3, none⟩) hb).trans t3
      have k4 := (HI.out.bel.cell (p := ⟨b, off + k * 5 + 4, none⟩) hb).trans t4
      have hki : (k : Int) < (len : Int) := by omega
      have HGs := Lib.hid (HG.out s (List.mem_of_getElem? hx))
      have HGo := Lib.hid (totR_good (l := l.take k) (fun r hr => HG.out r (List.mem_of_mem_take hr)))
      have HGr := Lib.hid (totR_repl (l.take k))
      have HN := Lib.hid (totR_next hx)
      have HT := Lib.hid (take_snoc2 hx)
      have HTw := Lib.hid (lngR_two hx)
      have HOn := Lib.hid (lngR_one hx)
      have hbd := lngR_bd (l.take (k + 1))
      have hbd2 := lngR_bd (l.take k)
      have hln : (l.take (k + 1)).length ≤ k + 1 := List.length_take_le _ _
      have hln2 : (l.take k).length ≤ k := List.length_take_le _ _
      have HBd := Lib.hid hbd
      have HBd2 := Lib.hid hbd2
      have HLn := Lib.hid hln
      have HLn2 := Lib.hid hln2
      have HLk := Lib.hid (show (l.take k).length < 1000000 by omega)
      have HSz := Lib.hid HI.out.sz
      generalize hO : totR (l.take k) = o at *
      have HA1 := Lib.hid (fun W => ref_Add o.comes s.comes W HGo.out.2.1 HGs.out.2.1)
      have HA2 := Lib.hid (fun W => ref_Add o.serves s.serves W HGo.out.2.2.2.1 HGs.out.2.2.2.1)
      have N1 := Lib.hid (Blk.new wr 79 s.row)
      have NL := Lib.hid (fun k e => (World.ownsRow.lt HI.out.own k e).1)
      clear hx hb t0 t1 t2 t3 t4 hbd hbd2 hln hln2 hO
      focus (go_upto_region 12 with (first
        | (refine Blk.load rfl 79 (.tmp 7) rfl _ _ _ _ rfl N1.out Try.underlying79 rfl (by kernel_rfl) ?_)
        | (at_builtin; refine wpList_push2 _ rfl (.tmp 22) (.tmp 24) 65 rfl (v1.heap.size + 1) 74 _ 5 40 _ Try.underlying65 info_lrow (by rfl) (by decide) (fun _ => rfl) rw_one (.slice A1 n1 c1) (l.take k) rfl (Own.alloc (Own.alloc HI.out.own _) _) ⟨_, 0, none⟩ 1 s rfl (blk_news (α := Rw) (vs := s.cells) (Blk.new2 _ _ _ _) rfl) HLk.out (by decide) (by have := HSz.out; simp; omega) ?_; intro v' w7 ho7 hu7 hw7; obtain ⟨A7, n7, c7, rfl, -, -⟩ := ho7.shape rw_len; have O7 := Lib.hid ho7; have U7 := Lib.hid hu7; clear ho7 hu7 hw7)))
      have T7 := Lib.hid (show TtI v1 w7 A7 n7 c7 (l.take (k + 1)) o from ⟨by rw [HT.out]; exact O7.out, ((HI.out.blk.alloc _).alloc _).upd U7.out (fun e => by have := NL.out _ e; omega), ((HI.out.bel.alloc HI.out.bel.size _).alloc (by have := HI.out.bel.size; simp; omega) _).trans (U7.out.below (fun j hj => by have := NL.out j hj; omega) (by have := HI.out.bel.size; simp; omega))⟩)
      have X7 := Lib.hid (show Blk w7 wr.heap.size 79 s.row from (N1.out.alloc _).upd U7.out (fun e => by have := (World.ownsRow.lt HI.out.own _ e).2; omega))
      clear U7 O7 N1 NL HI k0 k1 k2 k3 k4
      have s0 := X7.out.cellv (i := 0) (v := .int .i64 s.tick) rfl
      have s1 := X7.out.cellv (i := 1) (v := .int .i64 s.comes) rfl
      have s2 := X7.out.cellv (i := 2) (v := .int .i64 s.repl) rfl
      have s3 := X7.out.cellv (i := 3) (v := .int .i64 s.serves) rfl
      have s4 := X7.out.cellv (i := 4) (v := .int .i64 s.left) rfl
      have o0 := T7.out.blk.cellv (i := 0) (v := .int .i64 o.tick) rfl
      have o1 := T7.out.blk.cellv (i := 1) (v := .int .i64 o.comes) rfl
      have o2 := T7.out.blk.cellv (i := 2) (v := .int .i64 o.repl) rfl
      have o3 := T7.out.blk.cellv (i := 3) (v := .int .i64 o.serves) rfl
      have o4 := T7.out.blk.cellv (i := 4) (v := .int .i64 o.left) rfl
      have f0 := T7.out.blk.frozen 0
      have f1 := T7.out.blk.frozen 1
      have f2 := T7.out.blk.frozen 2
      have f3 := T7.out.blk.frozen 3
      have f4 := T7.out.blk.frozen 4
      have hne : ¬ v1.heap.size = wr.heap.size := by have := HSz.out; omega
      have hne2 : ¬ wr.heap.size = v1.heap.size := by have := HSz.out; omega
      have qr : 0 ≤ o.repl := HGr.out
      by_cases hmx : o.repl < s.repl
      · have hmx2 : ¬ s.repl ≤ o.repl := by omega
        focus (go_upto_region 17 with (first
          | (go_at_call 39; (with_reducible refine (HA1.out _).mono ?_); rintro e v8 ⟨rfl, rfl⟩)
          | (go_at_call 39; (with_reducible refine (HA2.out _).mono ?_); rintro e v8 ⟨rfl, rfl⟩)))
        all_goals first
          | (exfalso; omega)
          | skip
        have T8 := Lib.hid (T7.out.set5 s s.repl (by omega))
        obtain ⟨W8, hW8⟩ : ∃ W8, W8 = ((((w7.setCell ⟨v1.heap.size, 0, none⟩ (.int .i64 s.tick)).setCell ⟨v1.heap.size, 4, none⟩ (.int .i64 s.left)).setCell ⟨v1.heap.size, 1, none⟩ (.int .i64 (satq (o.comes + s.comes)))).setCell ⟨v1.heap.size, 3, none⟩ (.int .i64 (satq (o.serves + s.serves)))).setCell ⟨v1.heap.size, 2, none⟩ (.int .i64 s.repl) := ⟨_, rfl⟩
        rw [← hW8] at T8 ⊢
        clear hW8 s0 s1 s2 s3 s4 o0 o1 o2 o3 o4 f0 f1 f2 f3 f4 T7 X7 hne hne2 HA1 HA2 HGs HGo
        generalize hB0 : (lngR (l.take k)).1 = b0 at *
        have HB0 := Lib.hid hB0
        have r0 : 0 ≤ b0 := by rw [← hB0]; have := HBd2.out; omega
        have r1 : b0 ≤ 60 := by rw [← hB0]; have := HBd2.out; have := HLn2.out; omega
        clear hB0
        go_wp2
        go_loop [8, 9] (fun n x => ∃ (m y : Int), -1 ≤ y ∧ y ≤ k ∧ m ≤ k - y ∧ k - y ≤ m ∧ x = .int .i64 y ∧ n = .int .i64 m ∧ TrailI l k y) (fun _ x => (intOf x + 1).toNat)
        case atStart => exact ⟨0, k, by omega, by omega, by omega, by omega, rfl, rfl, by unfold TrailI; rw [show ((k : Int) + 1).toNat = k + 1 by omega]; omega⟩
        case round =>
          obtain ⟨m, y, hy1, hy2, hm1, hm2, rfl, rfl, htr⟩ := hrel
          have HTr := Lib.hid htr
          clear htr
          have tail : ∀ (e : (lngR (l.take (k + 1))).2 = m), Hid ((lngR (l.take (k + 1))).1 = max b0 m) := fun e => Lib.hid (by rw [HOn.out, e])
          by_cases hy : y = -1
          · subst hy
            have he : (lngR (l.take (k + 1))).2 = m := by have h := HTr.out; unfold TrailI at h; rw [h, show ((-1 : Int) + 1).toNat = 0 from rfl]; show (k : Int) - -1 + 0 = m; omega
            have HE := tail he
            clear he tail
            go_wp2
            all_goals first
              | (exfalso; omega)
              | (go_roundw
                 case rel => exact ⟨k + 1, A7, n7, c7, by omega, by go_num, rfl, int_eq (by rw [HE.out]; first | done | omega), by rw [HN.out]; exact T8.out⟩
                 case measure => simp [intOf]; omega)
          · obtain ⟨j, rfl⟩ : ∃ j : Nat, y = j := ⟨y.toNat, by omega⟩
            have hjl : j < len := by omega
            obtain ⟨bj, offj, sj, hAj, hxj, hbj, u0, u1, u2, u3, u4⟩ := RwsAre.row S1.out hjl
            cases hAj
            have e4 := (T8.out.bel.cell (p := ⟨b, off + j * 5 + 4, none⟩) hbj).trans u4
            have h2 := lngR_two hxj
            have hd1 : decide ((0 : Int) ≤ (j : Int)) = true := by simp
            have hji : (j : Int) < (len : Int) := by omega
            clear u0 u1 u2 u3 u4 hxj hbj
            by_cases h0 : sj.left = 0
            · have he : (lngR (l.take (k + 1))).2 = m := by have h := HTr.out; unfold TrailI at h; rw [h, show ((j : Int) + 1).toNat = j + 1 by omega, h2, if_pos h0]; omega
              have HE := tail he
              have dz : (sj.left != 0) = false := by simpa using h0
              have dz2 : (sj.left == 0) = true := by simpa using h0
              clear he tail h2 h0
              go_wp2
              all_goals first
                | (exfalso; omega)
                | (go_roundw
                   case rel => exact ⟨k + 1, A7, n7, c7, by omega, by go_num, rfl, int_eq (by rw [HE.out]; first | done | omega), by rw [HN.out]; exact T8.out⟩
                   case measure => simp [intOf]; omega)
            · have HTn := Lib.hid (show TrailI l k ((j : Int) - 1) from by have h := HTr.out; unfold TrailI at h ⊢; rw [h, show ((j : Int) + 1).toNat = j + 1 by omega, h2, if_neg h0, show ((j : Int) - 1 + 1).toNat = j by omega]; omega)
              have dz : (sj.left != 0) = true := by simpa using h0
              have dz2 : (sj.left == 0) = false := by simpa using h0
              clear tail h2 h0
              go_wp2
              go_round
              case rel => exact ⟨m + 1, (j : Int) - 1, by omega, by omega, by omega, by omega, rfl, rfl, HTn.out⟩
              case measure => first | (simp [intOf]; done) | (simp [intOf]; omega)
      · have hmx2 : s.repl ≤ o.repl := by omega
        focus (go_upto_region 17 with (first
          | (go_at_call 39; (with_reducible refine (HA1.out _).mono ?_); rintro e v8 ⟨rfl, rfl⟩)
          | (go_at_call 39; (with_reducible refine (HA2.out _).mono ?_); rintro e v8 ⟨rfl, rfl⟩)))
        all_goals first
          | (exfalso; omega)
          | skip
        have T8 := Lib.hid (T7.out.set5 s o.repl (by omega))
        obtain ⟨W8, hW8⟩ : ∃ W8, W8 = ((((w7.setCell ⟨v1.heap.size, 0, none⟩ (.int .i64 s.tick)).setCell ⟨v1.heap.size, 4, none⟩ (.int .i64 s.left)).setCell ⟨v1.heap.size, 1, none⟩ (.int .i64 (satq (o.comes + s.comes)))).setCell ⟨v1.heap.size, 3, none⟩ (.int .i64 (satq (o.serves + s.serves)))).setCell ⟨v1.heap.size, 2, none⟩ (.int .i64 o.repl) := ⟨_, rfl⟩
        rw [← hW8] at T8 ⊢
        clear hW8 s0 s1 s2 s3 s4 o0 o1 o2 o3 o4 f0 f1 f2 f3 f4 T7 X7 hne hne2 HA1 HA2 HGs HGo
        generalize hB0 : (lngR (l.take k)).1 = b0 at *
        have HB0 := Lib.hid hB0
        have r0 : 0 ≤ b0 := by rw [← hB0]; have := HBd2.out; omega
        have r1 : b0 ≤ 60 := by rw [← hB0]; have := HBd2.out; have := HLn2.out; omega
        clear hB0
        go_wp2
        go_loop [8, 9] (fun n x => ∃ (m y : Int), -1 ≤ y ∧ y ≤ k ∧ m ≤ k - y ∧ k - y ≤ m ∧ x = .int .i64 y ∧ n = .int .i64 m ∧ TrailI l k y) (fun _ x => (intOf x + 1).toNat)
        case atStart => exact ⟨0, k, by omega, by omega, by omega, by omega, rfl, rfl, by unfold TrailI; rw [show ((k : Int) + 1).toNat = k + 1 by omega]; omega⟩
        case round =>
          obtain ⟨m, y, hy1, hy2, hm1, hm2, rfl, rfl, htr⟩ := hrel
          have HTr := Lib.hid htr
          clear htr
          have tail : ∀ (e : (lngR (l.take (k + 1))).2 = m), Hid ((lngR (l.take (k + 1))).1 = max b0 m) := fun e => Lib.hid (by rw [HOn.out, e])
          by_cases hy : y = -1
          · subst hy
            have he : (lngR (l.take (k + 1))).2 = m := by have h := HTr.out; unfold TrailI at h; rw [h, show ((-1 : Int) + 1).toNat = 0 from rfl]; show (k : Int) - -1 + 0 = m; omega
            have HE := tail he
            clear he tail
            go_wp2
            all_goals first
              | (exfalso; omega)
              | (go_roundw
                 case rel => exact ⟨k + 1, A7, n7, c7, by omega, by go_num, rfl, int_eq (by rw [HE.out]; first | done | omega), by rw [HN.out]; exact T8.out⟩
                 case measure => simp [intOf]; omega)
          · obtain ⟨j, rfl⟩ : ∃ j : Nat, y = j := ⟨y.toNat, by omega⟩
            have hjl : j < len := by omega
            obtain ⟨bj, offj, sj, hAj, hxj, hbj, u0, u1, u2, u3, u4⟩ := RwsAre.row S1.out hjl
            cases hAj
            have e4 := (T8.out.bel.cell (p := ⟨b, off + j * 5 + 4, none⟩) hbj).trans u4
            have h2 := lngR_two hxj
            have hd1 : decide ((0 : Int) ≤ (j : Int)) = true := by simp
            have hji : (j : Int) < (len : Int) := by omega
            clear u0 u1 u2 u3 u4 hxj hbj
            by_cases h0 : sj.left = 0
            · have he : (lngR (l.take (k + 1))).2 = m := by have h := HTr.out; unfold TrailI at h; rw [h, show ((j : Int) + 1).toNat = j + 1 by omega, h2, if_pos h0]; omega
              have HE := tail he
              have dz : (sj.left != 0) = false := by simpa using h0
              have dz2 : (sj.left == 0) = true := by simpa using h0
              clear he tail h2 h0
              go_wp2
              all_goals first
                | (exfalso; omega)
                | (go_roundw
                   case rel => exact ⟨k + 1, A7, n7, c7, by omega, by go_num, rfl, int_eq (by rw [HE.out]; first | done | omega), by rw [HN.out]; exact T8.out⟩
                   case measure => simp [intOf]; omega)
            · have HTn := Lib.hid (show TrailI l k ((j : Int) - 1) from by have h := HTr.out; unfold TrailI at h ⊢; rw [h, show ((j : Int) + 1).toNat = j + 1 by omega, h2, if_neg h0, show ((j : Int) - 1 + 1).toNat = j by omega]; omega)
              have dz : (sj.left != 0) = true := by simpa using h0
              have dz2 : (sj.left == 0) = false := by simpa using h0
              clear tail h2 h0
              go_wp2
              go_round
              case rel => exact ⟨m + 1, (j : Int) - 1, by omega, by omega, by omega, by omega, rfl, rfl, HTn.out⟩
              case measure => first | (simp [intOf]; done) | (simp [intOf]; omega)
    · obtain rfl : k = len := by omega
      have hE : l.take k = l := List.take_of_length_le (by have := HL.out; omega)
      rw [hE] at HI ⊢
      have hcn := (HI.out.own.is rw_len).2.1
      have hnl := (HI.out.own.is rw_len).1
      have HTt := Lib.hid (fun W hW => loop_Total A1 n1 c1 l W hW HG.out (by have := HL.out; omega))
      have HLg := Lib.hid (fun W hW => loop_Longest A1 n1 c1 l W hW (by have := HL.out; omega))
      have hq := eq_lrow (totR l)
      have HQ := Lib.hid hq
      generalize totR l = o at *
      have hln : (lngR l).1 = (lngR l).1 := rfl
      generalize (lngR l).1 = b0 at *
      clear hE hq hln hcn hnl
      focus (go_upto_region 24 with (fail))
      refine wp_region_any (by kernel_rfl) ?_; change wpAny _ _ _ _ _ _ _ (World.drew wr); refine any_of_anyG (late := fun _ => false) (S := fun wS => Below wr.heap.size wr wS) _ _ _ _ ?_
      have S0 := (Below.refl wr.heap.size wr).drew
      refine anyG_takes (is := [0, 2]) (vs := [_, _]) (m := 9) (listed2 := #[true, false, true, false, false, false, false, false, false, false, false]) (a2 := ⟨#[_, _, _, _, _, _, _, _, _, _, _, _, _, _, _, _, _, _, _, _, _, _, _, _, _, _, _, _, _, _, _, _, _, _, _, _, _, _, _, _, _, _, _, _, _, _, _, _, _, _, _, _, _, _, _, _, _, _, _, _, _, _, _, _, _, _, _, _, _, _, _, _, _, _, _, _, _, _, _], _⟩) (by kernel_rfl) (fun j hj => by simp at hj) (by kernel_rfl) (fun _ _ _ _ _ h => h) (Ys.cons rfl (Or.inl ⟨by rfl, fun W1 hW1 => by first | rfl | (go_simp; done) | (go_simp; with_reducible rfl)⟩) (Ys.cons rfl (Or.inl ⟨by rfl, fun W1 hW1 => exec_load (ty := 74) (x := .tmp 4) rfl rfl (run_loadAt_blk _ _ _ _ _ _ (HI.out.blk.call hW1) Try.underlying74 rfl (by first | kernel_rfl | exact info_num _))⟩) (Ys.nil))) (S0) (by rfl) (by rfl) ?_
      refine anyG_one (k := 1) (by kernel_rfl) rfl (by rfl) (fun Q2 hQ2 => ?_); go_wp2_with (go_at_call 40; refine (HTt.out _ (slice_keep (HI.out.own.is rw_len) (S0))).mono ?_; rintro e v8 ⟨rfl, hb8⟩); refine hQ2 _ _ (fun _ => S0.trans (hb8.mono S0.size)) ?_; clear hQ2 Q2
      have S8 := S0.trans (hb8.mono S0.size)
      refine anyG_takes (is := [3, 4, 5, 7]) (vs := [.bool true, .bool true, _, _]) (m := 4) (listed2 := #[true, true, true, true, true, true, false, true, false, false, false]) (a2 := ⟨#[_, _, _, _, _, _, _, _, _, _, _, _, _, _, _, _, _, _, _, _, _, _, _, _, _, _, _, _, _, _, _, _, _, _, _, _, _, _, _, _, _, _, _, _, _, _, _, _, _, _, _, _, _, _, _, _, _, _, _, _, _, _, _, _, _, _, _, _, _, _, _, _, _, _, _, _, _, _, _], _⟩) (by kernel_rfl) (fun j hj => by simp at hj) (by kernel_rfl) (fun _ _ _ _ _ h => h) (Ys.cons rfl (Or.inl ⟨by rfl, fun W1 hW1 => by have q := HQ.out; go_simp⟩) (Ys.cons rfl (Or.inl ⟨by rfl, fun W1 hW1 => by rfl⟩) (Ys.cons rfl (Or.inl ⟨by rfl, fun W1 hW1 => by first | rfl | (go_simp; done) | (go_simp; with_reducible rfl)⟩) (Ys.cons rfl (Or.inl ⟨by rfl, fun W1 hW1 => by first | rfl | (go_simp; done) | (go_simp; with_reducible rfl)⟩) (Ys.nil))))) (S8) (by rfl) (by rfl) ?_
      refine anyG_one (k := 6) (by kernel_rfl) rfl (by rfl) (fun Q2 hQ2 => ?_); go_wp2_with (go_at_call 42; refine (HLg.out _ (slice_keep (HI.out.own.is rw_len) (S8))).mono ?_; rintro e v9 ⟨rfl, hb9⟩); refine hQ2 _ _ (fun _ => S8.trans (hb9.mono S8.size)) ?_; clear hQ2 Q2
      have S9 := S8.trans (hb9.mono S8.size)
      refine anyG_takes (is := [8, 9, 10]) (vs := [.bool true, .bool true, .bool true]) (m := 0) (listed2 := #[true, true, true, true, true, true, true, true, true, true, true]) (a2 := ⟨#[_, _, _, _, _, _, _, _, _, _, _, _, _, _, _, _, _, _, _, _, _, _, _, _, _, _, _, _, _, _, _, _, _, _, _, _, _, _, _, _, _, _, _, _, _, _, _, _, _, _, _, _, _, _, _, _, _, _, _, _, _, _, _, _, _, _, _, _, _, _, _, _, _, _, _, _, _, _, _], _⟩) (by kernel_rfl) (fun j hj => by simp at hj) (by kernel_rfl) (fun _ _ _ _ _ h => h) (Ys.cons rfl (Or.inl ⟨by rfl, fun W1 hW1 => by go_simp⟩) (Ys.cons rfl (Or.inl ⟨by rfl, fun W1 hW1 => by rfl⟩) (Ys.cons rfl (Or.inl ⟨by rfl, fun W1 hW1 => by rfl⟩) (Ys.nil)))) (S9) (by rfl) (by rfl) ?_
      refine anyG_done (by kernel_rfl) ?_ _
      have E9 := Lib.hid (HI.out.bel.trans (Below.mono (S9) HI.out.bel.size))
      go_wp2
      go_ret
      exact ⟨rfl, D1.out.trans (E9.out.mono D1.out.size)⟩
end Go.Proofs.Ytjodpffdlggjgaa
