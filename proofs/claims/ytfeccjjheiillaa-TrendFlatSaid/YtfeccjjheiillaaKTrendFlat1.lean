/- Several texts in one. -/
import Derived.Test.YtfeccjjheiillaaKTrendAhead2
import Derived.Test.YtfeccjjheiillaaKTrendAhead3
import Derived.Test.YtfeccjjheiillaaEqs
/- Chapter 52: awake; equality of lines. -/
namespace Go.Proofs.Ytfeccjjheiillaa
open Go.RowKit
set_option linter.unusedSimpArgs false
set_option linter.unusedVariables false
set_option maxHeartbeats 4000000
set_option maxRecDepth 100000
theorem eq_line (x : Ln) :
    (∀ W : World, (binOp .eql 43 (.agg x.row) (.agg x.row)).run Try.prog W = .ok (.bool true) W) ∧ (∀ W : World, (binOp .neq 42 (.agg x.row) (.agg x.row)).run Try.prog W = .ok (.bool false) W) := by
  have h1 := eq_ints (t := 43) (by kernel_rfl) (by kernel_rfl) (by kernel_rfl) (by kernel_rfl) [.i64, .i64, .i64, .i64] [x.tick, x.value, x.rise, x.run] [x.tick, x.value, x.rise, x.run] (by kernel_rfl) (by kernel_rfl) (by kernel_rfl) _ _ rfl rfl true (by simp)
  have h2 := eq_ints (t := 42) (by kernel_rfl) (by kernel_rfl) (by kernel_rfl) (by kernel_rfl) [.i64, .i64, .i64, .i64] [x.tick, x.value, x.rise, x.run] [x.tick, x.value, x.rise, x.run] (by kernel_rfl) (by kernel_rfl) (by kernel_rfl) _ _ rfl rfl true (by simp)
  exact ⟨h1.2.1, fun W => (h2.2.2 W).trans rfl⟩
def two52 : List Smp := [⟨0, 0⟩, ⟨10, 20⟩]
def ln52 : Ln := ⟨10, 20, 20, 10⟩
theorem ln_ext {x y : Ln} (h1 : x.tick = y.tick) (h2 : x.value = y.value) (h3 : x.rise = y.rise) (h4 : x.run = y.run) : x = y := by
  cases x; cases y; simp only at h1 h2 h3 h4; subst h1 h2 h3 h4; rfl
theorem line52 : lineS (serq 256 two52) = ln52 ∧ hasS (serq 256 two52) = true ∧ lnat ln52 15 = 30 := ⟨ln_ext (by decide +kernel) (by decide +kernel) (by decide +kernel) (by decide +kernel), by decide +kernel, by decide +kernel⟩
theorem awake52 (w : World) : Calls Try.prog 22 #[] w fun e w' => e = .returned (.bool true) ∧ Below w.heap.size w w' := by
  have HO := Lib.hid (fun A c W hW => trend_Of A 2 c two52 W hW (fun x hx => by
    simp only [two52, List.mem_cons, List.not_mem_nil, or_false] at hx
    rcases hx with rfl | rfl <;> unfold Smp.good I64 <;> simp) (by omega))
  unfold LineP at HO
  rw [line52.1, line52.2.1] at HO
  have HA := Lib.hid (fun W => line_At ln52 15 W (by unfold Ln.good ln52 I64; simp) (by unfold I64; omega))
  rw [line52.2.2] at HA
  have HU := Lib.hid (fun W => line_Up ln52 W)
  rw [show decide (0 < ln52.run ∧ 0 < ln52.rise) = true by decide] at HU
  obtain ⟨q1, -⟩ := eq_line ln52
  have HL := Lib.hid (show SmpsAre (w.alloc (.cells #[.int .i64 0, .int .i64 0, .int .i64 10, .int .i64 20] 34)) (some ⟨w.heap.size, 0, none⟩) 2 2 two52 from slice_blk (l := two52) (fun _ => rfl) (Blk.new w _ _) rfl (by decide))
  have E0 := Lib.hid (show Below w.heap.size w (w.alloc (.cells #[.int .i64 0, .int .i64 0, .int .i64 10, .int .i64 20] 34)) by go_grown)
  go_enter Try.func22, Try.ntmps22
  go_wp2_with fail
  refine (HO.out _ _ _ HL.out).mono ?_
  rintro e v1 ⟨rfl, hb1⟩
  have E1 := Lib.hid ((E0.out.trans (hb1.mono E0.out.size)).alloc (Nat.le_trans E0.out.size hb1.size) (.cells ln52.row 43))
  have B1 := Lib.hid (Blk.new v1 43 ln52.row)
  have c0 := B1.out.cellv (i := 0) (v := .int .i64 ln52.tick) rfl
  have c1 := B1.out.cellv (i := 1) (v := .int .i64 ln52.value) rfl
  have c2 := B1.out.cellv (i := 2) (v := .int .i64 ln52.rise) rfl
  have c3 := B1.out.cellv (i := 3) (v := .int .i64 ln52.run) rfl
  clear hb1
  go_wp2_with fail
  refine (HA.out _).mono ?_
  rintro e v2 ⟨rfl, hb2⟩
  have E2 := Lib.hid (E1.out.trans (hb2.mono E1.out.size))
  have d0 := (B1.out.call hb2).cellv (i := 0) (v := .int .i64 ln52.tick) rfl
  have d1 := (B1.out.call hb2).cellv (i := 1) (v := .int .i64 ln52.value) rfl
  have d2 := (B1.out.call hb2).cellv (i := 2) (v := .int .i64 ln52.rise) rfl
  have d3 := (B1.out.call hb2).cellv (i := 3) (v := .int .i64 ln52.run) rfl
  clear hb2 c0 c1 c2 c3
  go_wp2_with fail
  refine (HU.out _).mono ?_
  rintro e v3 ⟨rfl, hb3⟩
  go_wp2
  go_ret
  exact ⟨rfl, E2.out.trans (hb3.mono E2.out.size)⟩
end Go.Proofs.Ytfeccjjheiillaa
/- Chapter 52's law: TrendFlat. -/
namespace Go.Proofs.Ytfeccjjheiillaa
open Go.RowKit
set_option linter.unusedSimpArgs false
set_option linter.unusedVariables false
set_option maxHeartbeats 8000000
set_option maxRecDepth 100000
def flatq (l : List Smp) (v : Int) : List Smp := l.map (fun x => ⟨x.tick, v⟩)
def someq (l : List Smp) : Bool := l.any (fun x => decide (0 ≤ x.tick))
theorem flat_next {l : List Smp} {k : Nat} {x : Smp} (h : l[k]? = some x) (v : Int) : flatq (l.take (k + 1)) v = flatq (l.take k) v ++ [⟨x.tick, v⟩] := by
  unfold flatq; rw [take_snoc2 h, List.map_append]; rfl
theorem some_next {l : List Smp} {k : Nat} {x : Smp} (h : l[k]? = some x) : someq (l.take (k + 1)) = (someq (l.take k) || decide (0 ≤ x.tick)) := by
  unfold someq; rw [take_snoc2 h, List.any_append]; simp
theorem flat_good {l : List Smp} (hg : ∀ x ∈ l, x.good) {v : Int} (hv : I64 v) : ∀ x ∈ flatq l v, x.good := fun x hx => by
  unfold flatq at hx
  obtain ⟨y, hy, rfl⟩ := List.mem_map.1 hx
  exact ⟨(hg y hy).1, hv⟩
theorem serq_mem (room : Nat) (l : List Smp) : ∀ y ∈ serq room l, y ∈ l := by
  have key : ∀ (l a : List Smp), ∀ y ∈ l.foldl (fun a x => putv a room x) a, y ∈ a ∨ y ∈ l := by
    intro l
    induction l with
    | nil => intro a y hy; exact .inl hy
    | cons x l ih =>
      intro a y hy
      rcases ih _ y hy with h | h
      · change y ∈ putv a room x at h
        unfold putv at h
        split at h
        · have h1 : y ∈ putL a x := by
            unfold putq at h
            split at h
            · exact List.mem_of_mem_drop h
            · exact h
          rcases mem_putL.1 h1 with rfl | ⟨h2, _⟩
          · exact .inr (by simp)
          · exact .inl h2
        · exact .inl h
      · exact .inr (by simp [h])
  intro y hy
  rcases key l [] y hy with h | h
  · cases h
  · exact h
theorem serq_some (room : Nat) (h1 : 1 ≤ room) {v : Int} (hv : 0 ≤ v) (l : List Smp) : hasS (serq room (flatq l v)) = someq l := by
  have key : ∀ (l : List Smp) (a : List Smp), decide ((l.foldl (fun a x => putv a room x) a).length ≠ 0) = (decide (a.length ≠ 0) || l.any (fun x => decide (serErr x.tick x.value = 0))) := by
    intro l
    induction l with
    | nil => intro a; simp
    | cons x l ih =>
      intro a
      rw [List.foldl_cons, ih, List.any_cons]
      by_cases he : serErr x.tick x.value = 0
      · have hp : (putv a room x).length ≠ 0 := by
          have h2 : (putL a x).length ≠ 0 := by unfold putL; rw [List.length_append, List.length_cons]; omega
          unfold putv; rw [if_pos he]
          unfold putq; split
          · rw [List.length_drop]; omega
          · exact h2
        simp [hp, he]
      · have hp : putv a room x = a := if_neg he
        rw [hp]; simp [he]
  have h := key (flatq l v) []
  unfold hasS
  rw [show serq room (flatq l v) = (flatq l v).foldl (fun a x => putv a room x) [] from rfl, h]
  unfold flatq someq
  rw [List.any_map]
  have e : (fun x : Smp => decide (serErr x.tick x.value = 0)) ∘ (fun x : Smp => (⟨x.tick, v⟩ : Smp)) = fun x => decide (0 ≤ x.tick) := by
    funext x
    show decide (serErr x.tick v = 0) = _
    rw [decide_eq_decide, serErr_zero]
    omega
  rw [e]; simp
theorem mean_flat {S : List Smp} {v : Int} (hv : 0 ≤ v) (hv2 : I64 v) (hl : 0 < S.length) (h : ∀ x ∈ S, x.value = v) : meanq (valq S) = v := by
  have e : valq S = List.replicate S.length v := by
    unfold valq
    rw [List.eq_replicate_iff]
    exact ⟨by rw [List.length_map], fun b hb => by
      obtain ⟨x, hx, rfl⟩ := List.mem_map.1 hb
      have := h x hx
      omega⟩
  have hl2 : 0 < (valq S).length := by rw [e, List.length_replicate]; exact hl
  have hg : ∀ x ∈ valq S, I64 x := fun x hx => by rw [e] at hx; rw [List.eq_of_mem_replicate hx]; exact hv2
  have ht : totq (valq S) = v.toNat * (valq S).length := by
    rw [e, List.length_replicate]
    unfold totq
    rw [List.map_replicate]
    have key : ∀ (n a : Nat), (List.replicate n a).sum = a * n := by
      intro n a
      induction n with
      | zero => simp
      | succ n ih => rw [List.replicate_succ, List.sum_cons, ih, Nat.mul_succ]; omega
    exact key _ _
  have h1 := (mean_plain hg hl2).1
  rw [ht] at h1
  have h2 := upq_le (d := (valq S).length) hl2 (Nat.le_refl (v.toNat * (valq S).length))
  have h3 := le_upq (d := (valq S).length) hl2 (Nat.le_refl (v.toNat * (valq S).length))
  rw [h1]
  omega
theorem flat_line {S : List Smp} {v : Int} (hv : 0 ≤ v) (hv2 : I64 v) (hl : S.length ≠ 0) (h : ∀ x ∈ S, x.value = v) : (lineS S).value = v ∧ (lineS S).rise = 0 := by
  unfold lineS
  rw [if_neg hl]
  by_cases h1 : S.length = 1
  · rw [if_pos h1]
    have e1 : S[0]? = some S[0] := List.getElem?_eq_getElem (by omega)
    exact ⟨by show vlq S 0 = v; rw [vlq_eq e1]; exact h _ (List.getElem_mem _), rfl⟩
  · rw [if_neg h1]
    have hle : (earlyq S).length = S.length / 2 := by unfold earlyq; rw [List.length_take]; omega
    have hll : (lateq S).length = S.length / 2 := by unfold lateq; rw [List.length_drop]; omega
    have m1 := mean_flat hv hv2 (S := earlyq S) (by omega) (fun x hx => h x (List.mem_of_mem_take hx))
    have m2 := mean_flat hv hv2 (S := lateq S) (by omega) (fun x hx => h x (List.mem_of_mem_drop hx))
    exact ⟨m2, by show meanq (valq (lateq S)) - meanq (valq (earlyq S)) = 0; rw [m1, m2]; omega⟩
theorem flat_at {x : Ln} {v : Int} (hv : 0 ≤ v) (hv2 : I64 v) (h1 : x.value = v) (h2 : x.rise = 0) (h3 : 1 ≤ x.run) (tick : Int) : lnat x tick = v := by
  unfold lnat
  rw [if_neg (by omega), h1, h2, Int.mul_zero]
  have e0 : satq 0 = 0 := by unfold satq; rfl
  rw [e0]
  have e1 : floorq 0 x.run = 0 := by unfold floorq; rw [if_neg (by omega)]; simp
  rw [e1, Int.add_zero]
  have e2 : satq v = v := by unfold I64 at hv2; unfold satq; (repeat' split) <;> omega
  rw [e2]; omega
theorem walk_TrendFlat (A : Option Addr) (len cap : Nat) (l : List Smp) (value at_ : Int) (w : World) (hs : SmpsAre w A len cap l) (hg : ∀ x ∈ l, x.good) (hv : I64 value) (ha : I64 at_) :
    Calls Try.prog 6 #[.slice A len cap, .int .i64 value, .int .i64 at_] w fun e w' => e = .returned (.bool true) ∧ Below w.heap.size w w' := by
  have HS := Lib.hid hs
  have HL := Lib.hid hs.1
  have hle : len ≤ cap := hs.2.1
  have hm : cap ≤ 9223372036854775807 := by have := hs.2.2.1; unfold maxLen at this; omega
  have hd : (decide ((60 : Int) < (len : Int)) = true) ∨ (decide ((60 : Int) < (len : Int)) = false ∧ ((len : Int) == 0) = true) ∨ (decide ((60 : Int) < (len : Int)) = false ∧ ((len : Int) == 0) = false ∧ decide (value < 0) = true) ∨ (len ≤ 60 ∧ 0 < len ∧ 0 ≤ value) := by
    simp only [decide_eq_true_eq, decide_eq_false_iff_not, beq_iff_eq, beq_eq_false_iff_ne]
    omega
  rcases hd with d1 | ⟨d1, d2⟩ | ⟨d1, d2, d3⟩ | ⟨hl1, hl2, hv0⟩
  iterate 3
    · clear hs hg hv ha
      go_enter Try.func6, Try.ntmps6
      go_wp2_with (go_at_call 22; refine (awake52 _).mono ?_; rintro e v1 ⟨rfl, hb1⟩; have E1 := Lib.hid hb1; clear hb1)
      go_ret
      exact ⟨rfl, E1.out⟩
  have d1 : decide ((60 : Int) < (len : Int)) = false := by simp; omega
  have d2 : ((len : Int) == 0) = false := by simp; omega
  have d3 : decide (value < 0) = false := by simp; omega
  have HFl := Lib.hid (show (flatq l value).length = len by unfold flatq; rw [List.length_map, HL.out])
  have HOf := Lib.hid (fun W A2 c2 hW => trend_Of A2 len c2 (flatq l value) W hW (flat_good hg hv) (by omega))
  unfold LineP at HOf
  have hF := serq_fin 256 (flat_good hg hv)
  have hH := serq_some 256 (by omega) hv0 l
  have hval : ∀ x ∈ serq 256 (flatq l value), x.value = value := fun x hx => by
    have h9 := serq_mem 256 _ x hx
    unfold flatq at h9
    obtain ⟨y, -, rfl⟩ := List.mem_map.1 h9
    rfl
  have HLn := Lib.hid (fun (h : (serq 256 (flatq l value)).length ≠ 0) => flat_line hv0 hv h hval)
  have HGd := Lib.hid (line_good hF)
  have HHS := Lib.hid (show hasS (serq 256 (flatq l value)) = true → (serq 256 (flatq l value)).length ≠ 0 from fun h => by unfold hasS at h; simpa using h)
  rw [hH] at HOf HHS
  generalize serq 256 (flatq l value) = S at *
  have HAt := Lib.hid (fun (h : S.length ≠ 0) W => (show Calls Try.prog 25 #[.agg (lineS S).row, .int .i64 at_] W (fun e w' => e = .returned (.int .i64 value) ∧ Below W.heap.size W w') from (flat_at hv0 hv (HLn.out h).1 (HLn.out h).2 (HGd.out.2 h) at_) ▸ line_At (lineS S) at_ W HGd.out.1 ha))
  have HUp := Lib.hid (fun (h : S.length ≠ 0) W => (show Calls Try.prog 27 #[.agg (lineS S).row] W (fun e w' => e = .returned (.bool false) ∧ Below W.heap.size W w') from (show decide (0 < (lineS S).run ∧ 0 < (lineS S).rise) = false from decide_eq_false (fun h2 => by have := (HLn.out h).2; omega)) ▸ line_Up (lineS S) W))
  generalize lineS S = L at *
  clear hs hg hv ha hF hH hval HLn HGd
  go_enter Try.func6, Try.ntmps6
  go_wp2_with (go_at_call 22; refine (awake52 _).mono ?_; rintro e v1 ⟨rfl, hb1⟩; have E1 := Lib.hid hb1; clear hb1)
  go_loopw [7, 8, 29] (fun v s i wr => ∃ k : Nat, ∃ A2 n2 c2, k ≤ len ∧ i = .int .i64 k ∧ v = .slice A2 n2 c2 ∧ OwnS wr w.heap.size (.slice A2 n2 c2) (flatq (l.take k) value) ∧ s = .bool (someq (l.take k)) ∧ Below w.heap.size w wr) (fun _ _ i _ => len - (intOf i).toNat)
  case atStart => exact ⟨0, none, 0, 0, Nat.zero_le _, rfl, rfl, Own.nil _ _ _ _ _, rfl, E1.out⟩
  case round =>
    obtain ⟨k, A2, n2, c2, hk, rfl, rfl, ho, rfl, hbel⟩ := hrel
    have HO := Lib.hid ho
    have HB := Lib.hid hbel
    clear ho E1
    by_cases hlt : k < len
    · obtain ⟨b, off, x, rfl, hx, hb, t0, t1⟩ := HS.out.at_ hlt
      have kt0 := (hbel.cell (p := ⟨b, off + k * 2, none⟩) hb).trans t0
      have kt1 := (hbel.cell (p := ⟨b, off + k * 2 + 1, none⟩) hb).trans t1
      have hki : (k : Int) < (len : Int) := by omega
      have HN1 := Lib.hid (flat_next hx value)
      have HN2 := Lib.hid (some_next hx)
      have HLk := Lib.hid (show (flatq (l.take k) value).length < 1000000 by unfold flatq; rw [List.length_map, List.length_take]; omega)
      generalize someq (l.take k) = I at *
      have hI : I = true ∨ (I = false ∧ decide (0 ≤ x.tick) = true) ∨ (I = false ∧ decide (0 ≤ x.tick) = false) := by
        cases I <;> by_cases h : 0 ≤ x.tick <;> simp [h] <;> omega
      have NX := Lib.hid (Blk.new wr 34 #[.int .i64 x.tick, .int .i64 x.value])
      have N2 := Lib.hid (fun o1 o2 => (HB.out.alloc HB.out.size o1).alloc (HB.out.alloc HB.out.size o1).size o2)
      have N3 := Lib.hid (fun k e => (World.ownsRow.lt HO.out k e).2)
      clear hx hb t0 t1 hbel
      rcases hI with rfl | ⟨rfl, dI⟩ | ⟨rfl, dI⟩
      all_goals
        go_wp2_with (at_builtin; refine push_smp _ rfl _ _ rfl w.heap.size _ _ rfl (Own.alloc (Own.alloc HO.out _) _) _ _ 1 ⟨x.tick, value⟩ rfl (Blk.new2 _ _ _ _) HLk.out (by have := HB.out.size; simp; omega) ?_; intro v2 w2 ho2 hb2 hg2; obtain ⟨A3, n3, c3, rfl, -, -⟩ := ho2.shape smp_len; have O3 := Lib.hid ho2; have B3 := Lib.hid ((N2.out _ _).trans hb2); have cx := ((NX.out.alloc _).grown hg2 (fun e => absurd (N3.out _ e.symm) (Nat.lt_irrefl _))).cellv (i := 0) (v := .int .i64 x.tick) rfl; clear ho2 hb2 hg2)
        go_roundw
        case rel => exact ⟨k + 1, A3, n3, c3, by omega, by go_num, rfl, by rw [HN1.out]; exact O3.out, by rw [HN2.out]; first | (simp; done) | simp [dI], B3.out⟩
        case measure => simp [intOf]; omega
    · have hE : l.take k = l := List.take_of_length_le (by have := HL.out; omega)
      rw [hE] at HO ⊢
      have HSl := Lib.hid (HO.out.is smp_len)
      have HN := Lib.hid (show n2 = len by rw [← (HO.out.is smp_len).1, HFl.out])
      obtain rfl := HN.out
      clear hE HO hbel
      generalize someq l = I at *
      cases I
      · go_wp2_with (go_at_call 23; refine (HOf.out _ A2 c2 HSl.out).mono ?_; rintro e v4 ⟨rfl, hb4⟩; have E4 := Lib.hid ((HB.out.trans (hb4.mono HB.out.size)).alloc (Nat.le_trans HB.out.size hb4.size) (.cells L.row 43)); clear hb4)
        go_ret
        exact ⟨rfl, E4.out⟩
      · have hS := HHS.out rfl
        have HA1 := Lib.hid (HAt.out hS)
        have HU1 := Lib.hid (HUp.out hS)
        clear hS
        go_wp2_with (first
          | (go_at_call 23; refine (HOf.out _ A2 c2 HSl.out).mono ?_; rintro e v4 ⟨rfl, hb4⟩; have E4 := Lib.hid ((HB.out.trans (hb4.mono HB.out.size)).alloc (Nat.le_trans HB.out.size hb4.size) (.cells L.row 43)); have R4 := Lib.hid (Blk.new v4 43 L.row); have r0 := (R4.out).cellv (i := 0) (v := .int .i64 L.tick) rfl; have r1 := (R4.out).cellv (i := 1) (v := .int .i64 L.value) rfl; have r2 := (R4.out).cellv (i := 2) (v := .int .i64 L.rise) rfl; have r3 := (R4.out).cellv (i := 3) (v := .int .i64 L.run) rfl; clear hb4)
          | (go_at_call 25; refine (HA1.out _).mono ?_; rintro e v5 ⟨rfl, hb5⟩; have E5 := Lib.hid (E4.out.trans (hb5.mono E4.out.size)); have R5 := Lib.hid (R4.out.call hb5); have s0 := (R5.out).cellv (i := 0) (v := .int .i64 L.tick) rfl; have s1 := (R5.out).cellv (i := 1) (v := .int .i64 L.value) rfl; have s2 := (R5.out).cellv (i := 2) (v := .int .i64 L.rise) rfl; have s3 := (R5.out).cellv (i := 3) (v := .int .i64 L.run) rfl; clear hb5)
          | (go_at_call 27; refine (HU1.out _).mono ?_; rintro e v6 ⟨rfl, hb6⟩; have E6 := Lib.hid (E5.out.trans (hb6.mono E5.out.size)); clear hb6))
        go_ret
        exact ⟨rfl, E6.out⟩
end Go.Proofs.Ytfeccjjheiillaa
