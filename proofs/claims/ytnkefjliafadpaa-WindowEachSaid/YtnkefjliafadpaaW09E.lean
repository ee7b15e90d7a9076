/- window.Each, and the law WindowEach: the walk. -/
import Derived.Test.YtnkefjliafadpaaW09
import Derived.Deep.CutRange
namespace Go.Proofs.Ytnkefjliafadpaa
open Go.RowKit
set_option linter.unusedSimpArgs false
set_option linter.unusedVariables false
set_option maxHeartbeats 4000000
set_option maxRecDepth 100000
def Stat.cells (s : Stat) : List Value := [.int .i64 s.count, .int .i64 s.sum, .int .i64 s.least, .int .i64 s.most, .int .i64 s.mean]
abbrev OwnT (w : World) (base : Nat) (v : Value) (l : List Stat) : Prop := Own w base 32 5 Stat.cells v l
theorem info_stat : (Try.prog.info? 32).map (fun i => (i.zero, i.size, i.bytes)) = some (some (.agg #[.int .i64 0, .int .i64 0, .int .i64 0, .int .i64 0, .int .i64 0]), 5, 40) := by kernel_rfl
theorem stat_one : ∀ x : Stat, ∀ u ∈ x.cells, u.oneCell' = true := by
  intro x u hu
  simp [Stat.cells] at hu
  rcases hu with rfl | rfl | rfl | rfl | rfl <;> rfl
theorem push_stat {ops : Array Oper} {rest : List Oper} {o : Oper} {a : Act} {Q : Exit → Act → World → Prop} (w : World) (hgd : o.guard = none) (s x : Operand)
    (ho : o.op = .call { callee := .builtin .append, args := #[s, x], argTypes := #[36, 36] }) (base : Nat) (v : Value) (l : List Stat) (hs : a.eval s = v) (hown : OwnT w base v l)
    (g : Nat) (t : TypeId) (c : Nat) (y : Stat) (hx : a.eval x = .slice (some ⟨g, 0, none⟩) 1 c) (hnews : Blk w g t y.row) (hlen : l.length < 1000000) (hbase : base ≤ w.heap.size)
    (h : ∀ v' w', OwnT w' base v' (l ++ [y]) → Below base w w' → w.grownBy w' v.ownBlock → wpList Try.prog ops Q rest (a.put o.dst v') w') : wpList Try.prog ops Q (o :: rest) a w :=
  wpList_push w hgd s x 36 ho base 32 _ 5 40 _ Try.underlying36 info_stat (by rfl) (by decide) (fun _ => rfl) stat_one v l hs hown ⟨g, 0, none⟩ c y hx (blk_news (α := Stat) hnews rfl) hlen (by decide) hbase h
def toq (width tt : Int) : Nat → Int
  | 0 => tt
  | k + 1 => satq (toq width tt k - max width 0)
theorem toq_I64 (width : Int) {tt : Int} (h : I64 tt) (k : Nat) : I64 (toq width tt k) := by
  cases k with
  | zero => exact h
  | succ k => exact satq_I64 _
def eachq (l : List Smp) (width tt : Int) (k : Nat) : List Stat := (List.range k).map fun i => statq (cutq l (fromq (toq width tt i) width) (toq width tt i))
theorem eachq_len (l : List Smp) (width tt : Int) (k : Nat) : (eachq l width tt k).length = k := by simp [eachq]
theorem eachq_next (l : List Smp) (width tt : Int) (k : Nat) : eachq l width tt (k + 1) = eachq l width tt k ++ [statq (cutq l (fromq (toq width tt k) width) (toq width tt k))] := by simp [eachq, List.range_succ]
theorem eachq_at (l : List Smp) (width tt : Int) (n k : Nat) (h : k < n) : (eachq l width tt n)[k]? = some (statq (cutq l (fromq (toq width tt k) width) (toq width tt k))) := by simp [eachq, h]
theorem window_Each (A : Option Addr) (len cap : Nat) (l : List Smp) (tt width n : Int) (w : World) (hs : SmpsAre w A len cap l) (hg : ∀ x ∈ l, x.good) (hn : len ≤ 200) (h1 : I64 tt) (h2 : I64 width) (h3 : I64 n) :
    Calls Try.prog 22 #[.slice A len cap, .int .i64 tt, .int .i64 width, .int .i64 n] w fun e w' => ∃ v, e = .returned v ∧ OwnT w' w.heap.size v (eachq l width tt (min n 256).toNat) ∧ Below w.heap.size w w' := by
  have HS := Lib.hid hs
  have HG := Lib.hid hg
  clear hs hg
  unfold I64 at h3
  go_enter Try.func22, Try.ntmps22
  go_wp2
  go_loopw [1, 9, 11] (fun tv v i wr => ∃ k : Nat, k ≤ 256 ∧ (k : Int) ≤ max n 0 ∧ i = .int .i64 k ∧ tv = .int .i64 (toq width tt k) ∧ OwnT wr w.heap.size v (eachq l width tt k) ∧ Below w.heap.size w wr) (fun _ _ i _ => (n - intOf i).toNat)
  case atStart => exact ⟨0, by omega, by omega, rfl, rfl, Own.nil _ _ _ _ _, Below.refl _ _⟩
  case round =>
    obtain ⟨k, hk, hkn, rfl, rfl, hown, hbel⟩ := hrel
    obtain ⟨A', n', c', rfl, hn', hsl⟩ := hown.shape (fun _ => rfl)
    rw [eachq_len] at hn'
    obtain rfl : n' = k := hn'
    have O1 := Lib.hid hown
    clear hsl hown
    by_cases hlt : (n' : Int) < n
    · by_cases h256 : n' = 256
      · have HN := Lib.hid (show (min n 256).toNat = n' by omega)
        have d1 : ((n' : Int) == 256) = true := by simp; omega
        clear h256
        go_wp2
        go_ret
        exact ⟨_, rfl, by rw [HN.out]; exact O1.out, hbel⟩
      · have d1 : ((n' : Int) == 256) = false := by simp; omega
        have HB := Lib.hid hbel
        have hT := toq_I64 width h1 n'
        have HNx := Lib.hid (eachq_next l width tt n')
        have HTx := Lib.hid (show toq width tt (n' + 1) = satq (toq width tt n' - max width 0) from rfl)
        have HLen := Lib.hid (eachq_len l width tt n')
        generalize toq width tt n' = T at *
        have HAt := Lib.hid (fun W hW => window_At A len cap l T width W hW HG.out hn hT h2)
        generalize statq (cutq l (fromq T width) T) = ST at *
        have hk2 : n' ≤ 255 := by omega
        clear hbel h256
        go_wp2_with fail
        refine (HAt.out _ (slice_keep HS.out HB.out)).mono ?_
        rintro e w2 ⟨rfl, hb2⟩
        have O2 := Lib.hid (O1.out.call hb2)
        have B2 := Lib.hid (HB.out.trans (hb2.mono HB.out.size))
        have Z2 := Nat.le_trans HB.out.size hb2.size
        clear hb2
        by_cases hw : width < 0
        · have HM := Lib.hid (show max width 0 = 0 by omega)
          have HSub := Lib.hid (fun W => sat_Sub T 0 W hT (by unfold I64; omega))
          go_wp2_with (first | (at_builtin; refine push_stat _ rfl _ _ rfl w.heap.size _ _ rfl (O2.out.alloc _) w2.heap.size _ 1 ST rfl (Blk.new w2 _ _) (by rw [HLen.out]; omega) (by simp; omega) ?_; intro v3 w3 ho3 hb3 hg3) | (go_at_call 44; refine (HSub.out _).mono ?_; rintro e w4 ⟨rfl, rfl⟩))
          go_roundw
          case rel => exact ⟨n' + 1, by omega, by omega, by go_num, by rw [HTx.out, HM.out, Int.sub_zero], by rw [HNx.out]; exact ho3, (B2.out.alloc B2.out.size _).trans hb3⟩
          case measure => simp [intOf]; omega
        · have HM := Lib.hid (show max width 0 = width by omega)
          have HSub := Lib.hid (fun W => sat_Sub T width W hT h2)
          have HSub0 := Lib.hid (fun W => sat_Sub T 0 W hT (by unfold I64; omega))
          have d2 : decide (width < 0) = false := by simp; omega
          go_wp2_with (at_builtin; refine push_stat _ rfl _ _ rfl w.heap.size _ _ rfl (O2.out.alloc _) w2.heap.size _ 1 ST rfl (Blk.new w2 _ _) (by rw [HLen.out]; omega) (by simp; omega) ?_; intro v3 w3 ho3 hb3 hg3)
          all_goals
            first
              | ((with_reducible refine (HSub.out _).mono ?_)
                 rintro e w4 ⟨rfl, rfl⟩
                 go_wp2
                 go_roundw
                 case rel => exact ⟨n' + 1, by omega, by omega, by go_num, by rw [HTx.out, HM.out], by rw [HNx.out]; exact ho3, (B2.out.alloc B2.out.size _).trans hb3⟩
                 case measure => simp [intOf]; omega)
              | ((with_reducible refine (HSub0.out _).mono ?_)
                 rintro e w4 ⟨rfl, rfl⟩
                 have hM0 : max width 0 = 0 := by omega
                 have HM0 := Lib.hid hM0
                 clear hM0
                 go_wp2
                 go_roundw
                 case rel => exact ⟨n' + 1, by omega, by omega, by go_num, by rw [HTx.out, HM0.out, Int.sub_zero], by rw [HNx.out]; exact ho3, (B2.out.alloc B2.out.size _).trans hb3⟩
                 case measure => simp [intOf]; omega)
    · have HN := Lib.hid (show (min n 256).toNat = n' by omega)
      go_wp2
      go_ret
      exact ⟨_, rfl, by rw [HN.out]; exact O1.out, hbel⟩
theorem stats_at {w : World} {A : Option Addr} {len cap : Nat} {l : List Stat} (h : SliceIs w 5 Stat.cells A len cap l) {k : Nat} (hk : k < len) :
    ∃ (b off : Nat) (x : Stat), A = some ⟨b, off, none⟩ ∧ l[k]? = some x ∧ b < w.heap.size ∧ w.cell? ⟨b, off + k * 5, none⟩ = some (.int .i64 x.count) ∧ w.cell? ⟨b, off + k * 5 + 1, none⟩ = some (.int .i64 x.sum) ∧ w.cell? ⟨b, off + k * 5 + 2, none⟩ = some (.int .i64 x.least) ∧ w.cell? ⟨b, off + k * 5 + 3, none⟩ = some (.int .i64 x.most) ∧ w.cell? ⟨b, off + k * 5 + 4, none⟩ = some (.int .i64 x.mean) := by
  obtain ⟨b, off, x, h1, h2, h3, h4⟩ := SliceIs.at_ h hk
  exact ⟨b, off, x, h1, h2, h3, h4 0 _ rfl, by rw [Nat.add_assoc]; exact h4 1 _ rfl, by rw [Nat.add_assoc]; exact h4 2 _ rfl, by rw [Nat.add_assoc]; exact h4 3 _ rfl, by rw [Nat.add_assoc]; exact h4 4 _ rfl⟩
theorem walk_WindowEach (A : Option Addr) (len cap : Nat) (l : List Smp) (tt width n : Int) (w : World) (hs : SmpsAre w A len cap l) (hg : ∀ x ∈ l, x.good) (h1 : I64 tt) (h2 : I64 width) (h3 : I64 n) :
    Calls Try.prog 5 #[.slice A len cap, .int .i64 tt, .int .i64 width, .int .i64 n] w fun e w' => e = .returned (.bool true) ∧ Below w.heap.size w w' := by
  have HS := Lib.hid hs
  have HG := Lib.hid hg
  have HL := Lib.hid hs.1
  have hle : len ≤ cap := hs.2.1
  have hm : cap ≤ 9223372036854775807 := by have := hs.2.2.1; unfold maxLen at this; omega
  clear hs hg
  go_enter Try.func5, Try.ntmps5
  go_wp2_with fail
  refine (awake09 _).mono ?_
  rintro e v1 ⟨rfl, hb1⟩
  have E1 := Lib.hid hb1
  clear hb1
  by_cases hl : 20 < len
  · go_wp2
    go_ret
    exact ⟨rfl, E1.out⟩
  by_cases hl2 : 300 < n
  · go_wp2
    go_ret
    exact ⟨rfl, E1.out⟩
  · have hn20 : len ≤ 20 := by omega
    have hcl : ∀ f t, (cutq l f t).length ≤ 20 := fun f t => by have := cutq_len l f t; have := HL.out; omega
    have HCL := Lib.hid hcl
    clear hcl
    go_wp2_with fail
    refine (window_Each A len cap l tt width n _ (slice_keep HS.out E1.out) HG.out (by omega) h1 h2 h3).mono ?_
    rintro e v2 ⟨x2, rfl, ho, hb2⟩
    obtain ⟨A2, n2, c2, rfl, hn2, hsl⟩ := ho.shape (fun _ => rfl)
    rw [eachq_len] at hn2
    have E2 := Lib.hid (E1.out.trans (hb2.mono E1.out.size))
    have L2 := Lib.hid hsl
    have HE := Lib.hid (fun k hk => eachq_at l width tt (min n 256).toNat k hk)
    have hn2i : (n2 : Int) = max 0 (min n 256) := by rw [hn2]; omega
    have hn2b : n2 ≤ 256 := by omega
    have HN2 := Lib.hid hn2
    have HI := Lib.hid hn2i
    clear ho hsl hb2 hn2 hn2i
    go_upto_region 6 with (fail)
    go_cut [32] from 27 to 32 (fun s wx => s = .bool false ∧ wx = v2)
    case first =>
      have HX := Lib.hid h3
      unfold I64 at h3
      go_wp2
      all_goals
        go_meet
        case rel =>
          refine ⟨?_, rfl⟩
          have := HI.out
          congr 1
          simp
          omega
    case rest =>
      obtain ⟨rfl, rfl⟩ := hcut
      go_wp2
      go_loopw [10, 36] (fun tv i wr => ∃ k : Nat, k ≤ n2 ∧ i = .int .i64 k ∧ tv = .int .i64 (toq width tt k) ∧ Below wc.heap.size wc wr) (fun _ i _ => n2 - (intOf i).toNat)
      case atStart => exact ⟨0, by omega, rfl, rfl, Below.refl _ _⟩
      case round =>
        obtain ⟨k, hk, rfl, rfl, hbel⟩ := hrel
        by_cases hlt : k < n2
        · obtain ⟨b, off, x, rfl, hx, hb, t0, t1, t2, t3, t4⟩ := stats_at L2.out hlt
          obtain rfl : statq (cutq l (fromq (toq width tt k) width) (toq width tt k)) = x := Option.some.inj ((HE.out k (by rw [← HN2.out]; exact hlt)).symm.trans hx)
          have hT := toq_I64 width h1 k
          have HTx := Lib.hid (show toq width tt (k + 1) = satq (toq width tt k - max width 0) from rfl)
          have B0 := Lib.hid (E2.out.trans (hbel.mono E2.out.size))
          have HBel := Lib.hid hbel
          generalize toq width tt k = T at *
          have HIs := Lib.hid (fun W A n c hW hn => ref09_Is A n c (cutq l (fromq T width) T) W hW (cutq_good HG.out _ _) hn)
          have HCl := Lib.hid (HCL.out (fromq T width) T)
          have k0 := (hbel.cell (p := ⟨b, off + k * 5, none⟩) hb).trans t0
          have k1 := (hbel.cell (p := ⟨b, off + k * 5 + 1, none⟩) hb).trans t1
          have k2 := (hbel.cell (p := ⟨b, off + k * 5 + 2, none⟩) hb).trans t2
          have k3 := (hbel.cell (p := ⟨b, off + k * 5 + 3, none⟩) hb).trans t3
          have k4 := (hbel.cell (p := ⟨b, off + k * 5 + 4, none⟩) hb).trans t4
          clear hx hb t0 t1 t2 t3 t4
          generalize statq (cutq l (fromq T width) T) = ST at *
          have hki : (k : Int) < (n2 : Int) := by omega
          go_upto_region 12 with (fail)
          have BS := Lib.hid (Blk.new wr 32 #[.int .i64 ST.count, .int .i64 ST.sum, .int .i64 ST.least, .int .i64 ST.most, .int .i64 ST.mean])
          have B5 := Lib.hid (B0.out.alloc B0.out.size (.cells #[.int .i64 ST.count, .int .i64 ST.sum, .int .i64 ST.least, .int .i64 ST.most, .int .i64 ST.mean] 32))
          have C5 := Lib.hid (HBel.out.alloc HBel.out.size (.cells #[.int .i64 ST.count, .int .i64 ST.sum, .int .i64 ST.least, .int .i64 ST.most, .int .i64 ST.mean] 32))
          clear k0 k1 k2 k3 k4 hbel
          generalize wr.alloc (.cells #[.int .i64 ST.count, .int .i64 ST.sum, .int .i64 ST.least, .int .i64 ST.most, .int .i64 ST.mean] 32) = W5 at *
          refine wp_region_any (by kernel_rfl) ?_; change wpAny _ _ _ _ _ _ _ (World.drew W5); refine any_of_anyG (late := fun _ => false) (S := fun wS => Below W5.heap.size W5 wS) _ _ _ _ ?_
          have S0 := (Below.refl W5.heap.size W5).drew
          refine anyG_take (i := 0) (v := _) rfl (by kernel_rfl) (by kernel_rfl) (by kernel_rfl) (by kernel_rfl) rfl (by kernel_rfl) (fun j hj => by first | (simp at hj; done) | (simp at hj; simp; omega)) (fun _ _ _ h => h) (Or.inl ⟨by rfl, fun W1 hW1 => by first | rfl | (go_simp; done) | (go_simp; with_reducible rfl)⟩) (S0) ?_
          refine anyG_take (i := 1) (v := _) rfl (by kernel_rfl) (by kernel_rfl) (by kernel_rfl) (by kernel_rfl) rfl (by kernel_rfl) (fun j hj => by first | (simp at hj; done) | (simp at hj; simp; omega)) (fun _ _ _ h => h) (Or.inl ⟨by rfl, fun W1 hW1 => by first | rfl | (go_simp; done) | (go_simp; with_reducible rfl)⟩) (S0) ?_
          refine anyG_take (i := 2) (v := _) rfl (by kernel_rfl) (by kernel_rfl) (by kernel_rfl) (by kernel_rfl) rfl (by kernel_rfl) (fun j hj => by first | (simp at hj; done) | (simp at hj; simp; omega)) (fun _ _ _ h => h) (Or.inl ⟨by rfl, fun W1 hW1 => by first | rfl | (go_simp; done) | (go_simp; with_reducible rfl)⟩) (S0) ?_
          refine anyG_take (i := 4) (v := _) rfl (by kernel_rfl) (by kernel_rfl) (by kernel_rfl) (by kernel_rfl) rfl (by kernel_rfl) (fun j hj => by first | (simp at hj; done) | (simp at hj; simp; omega)) (fun _ _ _ h => h) (Or.inl ⟨by rfl, fun W1 hW1 => by first | rfl | (go_simp; done) | (go_simp; with_reducible rfl)⟩) (S0) ?_
          refine anyG_take (i := 6) (v := _) rfl (by kernel_rfl) (by kernel_rfl) (by kernel_rfl) (by kernel_rfl) rfl (by kernel_rfl) (fun j hj => by first | (simp at hj; done) | (simp at hj; simp; omega)) (fun _ _ _ h => h) (Or.inl ⟨by rfl, fun W1 hW1 => exec_load (ty := 32) (x := .tmp 12) rfl rfl (run_loadAt_blk _ _ _ _ _ _ (BS.out.call hW1) Try.underlying32 rfl (by first | kernel_rfl | exact info_num _))⟩) (S0) ?_
          refine anyG_one (k := 3) (by kernel_rfl) rfl (by rfl) (fun Q2 hQ2 => ?_); go_wp2_with (go_at_call 11; refine (ref09_From T width _ hT h2).mono ?_; rintro e v6 ⟨rfl, rfl⟩); refine hQ2 _ _ (fun _ => S0) ?_; clear hQ2 Q2
          refine anyG_one (k := 5) (by kernel_rfl) rfl (by rfl) (fun Q2 hQ2 => ?_); go_wp2_with (go_at_call 14; refine (ref09_Cut A len cap l _ T _ (slice_keep HS.out (B5.out.trans (S0.mono B5.out.size))) (by omega)).mono ?_; rintro e v7 ⟨x7, rfl, ho, hb7⟩; obtain ⟨A7, n7, c7, rfl, hn7, hs7⟩ := ho.shape (fun _ => rfl); have hn7b : n7 ≤ 20 := (by rw [hn7]; exact HCl.out); have L7 := Lib.hid hs7; clear ho hs7 hn7); refine hQ2 _ _ (fun _ => S0.trans (hb7.mono S0.size)) ?_; clear hQ2 Q2
          have S7 := S0.trans (hb7.mono S0.size)
          refine anyG_one (k := 7) (by kernel_rfl) rfl (by rfl) (fun Q2 hQ2 => ?_); go_wp2_with (go_at_call 19; refine (HIs.out _ A7 n7 c7 L7.out (by omega)).mono ?_; rintro e v8 ⟨rfl, hb8⟩); refine hQ2 _ _ (fun _ => S7.trans (hb8.mono S7.size)) ?_; clear hQ2 Q2
          have S8 := S7.trans (hb8.mono S7.size)
          refine anyG_one (k := 8) (by kernel_rfl) rfl (by rfl) (fun Q2 hQ2 => ?_); go_wp2_with fail; refine hQ2 _ _ (fun _ => S8) ?_; clear hQ2 Q2
          refine anyG_done (by kernel_rfl) ?_ _
          have C6 := Lib.hid (C5.out.trans (S8.mono C5.out.size))
          by_cases hw : width < 0
          · have HM := Lib.hid (show max width 0 = 0 by omega)
            have HSub := Lib.hid (fun W => ref_Sub T 0 W hT (by unfold I64; omega))
            go_wp2_with (go_at_call 23; (with_reducible refine (HSub.out _).mono ?_); rintro e w4 ⟨rfl, rfl⟩)
            go_roundw
            case rel => exact ⟨k + 1, by omega, by go_num, by rw [HTx.out, HM.out, Int.sub_zero], C6.out⟩
            case measure => simp [intOf]; omega
          · have HM := Lib.hid (show max width 0 = width by omega)
            have HSub := Lib.hid (fun W => ref_Sub T width W hT h2)
            have HSub0 := Lib.hid (fun W => ref_Sub T 0 W hT (by unfold I64; omega))
            have d2 : decide (width < 0) = false := by simp; omega
            go_wp2_with fail
            all_goals
              first
                | ((with_reducible refine (HSub.out _).mono ?_)
                   rintro e w4 ⟨rfl, rfl⟩
                   go_wp2
                   go_roundw
                   case rel => exact ⟨k + 1, by omega, by go_num, by rw [HTx.out, HM.out], C6.out⟩
                   case measure => simp [intOf]; omega)
                | ((with_reducible refine (HSub0.out _).mono ?_)
                   rintro e w4 ⟨rfl, rfl⟩
                   have hM0 : max width 0 = 0 := by omega
                   have HM0 := Lib.hid hM0
                   clear hM0
                   go_wp2
                   go_roundw
                   case rel => exact ⟨k + 1, by omega, by go_num, by rw [HTx.out, HM0.out, Int.sub_zero], C6.out⟩
                   case measure => simp [intOf]; omega)
        · go_wp2
          go_ret
          exact ⟨rfl, E2.out.trans (hbel.mono E2.out.size)⟩
end Go.Proofs.Ytnkefjliafadpaa
