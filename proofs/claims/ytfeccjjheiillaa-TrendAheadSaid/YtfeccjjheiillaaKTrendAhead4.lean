/- Several texts in one. -/
import Derived.Test.YtfeccjjheiillaaKTrendAhead2
import Derived.Test.YtfeccjjheiillaaKTrendAhead3
import Derived.Test.YtfeccjjheiillaaEqs
import Derived.Test.YtfeccjjheiillaaSer3
/- Chapter 52: awake; equality of lines. -/
namespace Go.Proofs.Ytfeccjjheiillaa
open Go.RowKit
set_option linter.unusedSimpArgs false
set_option linter.unusedVariables false
set_option maxHeartbeats 4000000
set_option maxRecDepth 100000
theorem eq_line (x : Ln) :
    (∀ W : World, (binOp .eql 43 (.agg x.row) (.agg x.row)).run Try.prog W = .ok (.bool true) W) ∧ (∀ W : World, (binOp .neq 42 (.agg x.row) (.agg x.row)).run Try.prog W = .ok (.bool false) W) := by
  have h1 := eq_ints (t := 43) (by kernel_rfl) (by kernel_rfl) (by kernel_rfl) (by kernel_rfl) [.i64, .i64, .i64, .i64] [x.tick, x.value, x.rise, x.run] [x.tick, x.value, x.rise, x.run] (by kernel_rfl) (by kernel_rfl) (by kernel_rfl) _ _ rfl rfl true (by simp)
  have h2 := eq_ints (t := 42) (by kernel_rfl) (by kernel_rfl) (by kernel_rfl) (by kernel_rfl) [.i64, .i64, .i64, .i64] [x.tick, x.value, x.rise, x.run] [x.tick, x.value, x.rise, x.run] (by kernel_rfl) (by kernel_rfl) (by kernel_rfl) _ _ rfl rfl true (by simp)
  exact ⟨h1.2.1, fun W => (h2.2.2 W).trans rfl⟩
def two52 : List Smp := [⟨0, 0⟩, ⟨10, 20⟩]
def ln52 : Ln := ⟨10, 20, 20, 10⟩
theorem ln_ext {x y : Ln} (h1 : x.tick = y.tick) (h2 : x.value = y.value) (h3 : x.rise = y.rise) (h4 : x.run = y.run) : x = y := by
  cases x; cases y; simp only at h1 h2 h3 h4; subst h1 h2 h3 h4; rfl
theorem line52 : lineS (serq 256 two52) = ln52 ∧ hasS (serq 256 two52) = true ∧ lnat ln52 15 = 30 := ⟨ln_ext (by decide +kernel) (by decide +kernel) (by decide +kernel) (by decide +kernel), by decide +kernel, by decide +kernel⟩
theorem awake52 (w : World) : Calls Try.prog 22 #[] w fun e w' => e = .returned (.bool true) ∧ Below w.heap.size w w' := by
  have HO := Lib.hid (fun A c W hW => trend_Of A 2 c two52 W hW (fun x hx => by
    simp only [two52, List.mem_cons, List.not_mem_nil, or_false] at hx
    rcases hx with rfl | rfl <;> unfold Smp.good I64 <;> simp) (by omega))
  unfold LineP at HO
  rw [line52.1, line52.2.1] at HO
  have HA := Lib.hid (fun W => line_At ln52 15 W (by unfold Ln.good ln52 I64; simp) (by unfold I64; omega))
  rw [line52.2.2] at HA
  have HU := Lib.hid (fun W => line_Up ln52 W)
  rw [show decide (0 < ln52.run ∧ 0 < ln52.rise) = true by decide] at HU
  obtain ⟨q1, -⟩ := eq_line ln52
  have HL := Lib.hid (show SmpsAre (w.alloc (.cells #[.int .i64 0, .int .i64 0, .int .i64 10, .int .i64 20] 34)) (some ⟨w.heap.size, 0, none⟩) 2 2 two52 from slice_blk (l := two52) (fun _ => rfl) (Blk.new w _ _) rfl (by decide))
  have E0 := Lib.hid (show Below w.heap.size w (w.alloc (.cells #[.int .i64 0, .int .i64 0, .int .i64 10, .int .i64 20] 34)) by go_grown)
  go_enter Try.func22, Try.ntmps22
  go_wp2_with fail
  refine (HO.out _ _ _ HL.out).mono ?_
  rintro e v1 ⟨rfl, hb1⟩
  have E1 := Lib.hid ((E0.out.trans (hb1.mono E0.out.size)).alloc (Nat.le_trans E0.out.size hb1.size) (.cells ln52.row 43))
  have B1 := Lib.hid (Blk.new v1 43 ln52.row)
  have c0 := B1.out.cellv (i := 0) (v := .int .i64 ln52.tick) rfl
  have c1 := B1.out.cellv (i := 1) (v := .int .i64 ln52.value) rfl
  have c2 := B1.out.cellv (i := 2) (v := .int .i64 ln52.rise) rfl
  have c3 := B1.out.cellv (i := 3) (v := .int .i64 ln52.run) rfl
  clear hb1
  go_wp2_with fail
  refine (HA.out _).mono ?_
  rintro e v2 ⟨rfl, hb2⟩
  have E2 := Lib.hid (E1.out.trans (hb2.mono E1.out.size))
  have d0 := (B1.out.call hb2).cellv (i := 0) (v := .int .i64 ln52.tick) rfl
  have d1 := (B1.out.call hb2).cellv (i := 1) (v := .int .i64 ln52.value) rfl
  have d2 := (B1.out.call hb2).cellv (i := 2) (v := .int .i64 ln52.rise) rfl
  have d3 := (B1.out.call hb2).cellv (i := 3) (v := .int .i64 ln52.run) rfl
  clear hb2 c0 c1 c2 c3
  go_wp2_with fail
  refine (HU.out _).mono ?_
  rintro e v3 ⟨rfl, hb3⟩
  go_wp2
  go_ret
  exact ⟨rfl, E2.out.trans (hb3.mono E2.out.size)⟩
end Go.Proofs.Ytfeccjjheiillaa
/- trend.Ahead and its reference: the walks. (fast region) -/
namespace Go.Proofs.Ytfeccjjheiillaa
open Go.RowKit
set_option linter.unusedSimpArgs false
set_option linter.unusedVariables false
set_option maxHeartbeats 8000000
set_option maxRecDepth 100000
def ahT (S : List Smp) (ticks : Int) : Int := satq (tkq S (S.length - 1) + ticks)
def aheadq (S : List Smp) (ticks : Int) : Smp := if S.length = 0 ∨ ticks < 0 then ⟨0, 0⟩ else ⟨ahT S ticks, lnat (lineS S) (ahT S ticks)⟩
def hasA (S : List Smp) (ticks : Int) : Bool := decide (¬ (S.length = 0 ∨ ticks < 0))
def AheadP (S : List Smp) (ticks : Int) (w : World) (e : Ending) (w' : World) : Prop := e = .returned (.tuple #[.agg #[.int .i64 (aheadq S ticks).tick, .int .i64 (aheadq S ticks).value], .bool (hasA S ticks)]) ∧ Below w.heap.size w w'
abbrev z2 : Array Value := #[.int .i64 0, .int .i64 0]
def LJ2 (w wr : World) : Prop := Blk wr w.heap.size 34 z2 ∧ Below w.heap.size w wr
theorem LJ2.start (w : World) : LJ2 w (w.alloc (.cells z2 34)) := ⟨Blk.new w _ _, by go_grown⟩
theorem LJ2.call {w wr w' : World} (h : LJ2 w wr) (hb : Below wr.heap.size wr w') : LJ2 w w' := ⟨h.1.call hb, h.2.trans (hb.mono h.2.size)⟩
theorem ah_cases (S : List Smp) (ticks : Int) : (hasS S = false ∧ aheadq S ticks = ⟨0, 0⟩ ∧ hasA S ticks = false) ∨ (hasS S = true ∧ decide (ticks < 0) = true ∧ aheadq S ticks = ⟨0, 0⟩ ∧ hasA S ticks = false) ∨ (hasS S = true ∧ decide (ticks < 0) = false ∧ 0 ≤ ticks ∧ S.length ≠ 0 ∧ aheadq S ticks = ⟨ahT S ticks, lnat (lineS S) (ahT S ticks)⟩ ∧ hasA S ticks = true) := by
  unfold hasS aheadq hasA
  by_cases h0 : S.length = 0
  · left; simp [h0]
  · by_cases h1 : ticks < 0
    · right; left; simp [h0, h1]
    · right; right; simp [h0, h1]; omega
theorem trend_Ahead (A : Option Addr) (len cap : Nat) (l : List Smp) (ticks : Int) (w : World) (hs : SmpsAre w A len cap l) (hg : ∀ x ∈ l, x.good) (hn : len ≤ 200) (ht : I64 ticks) :
    Calls Try.prog 38 #[.slice A len cap, .int .i64 ticks] w (AheadP (serq 256 l) ticks w) := by
  have D0 := Lib.hid (LJ2.start w)
  have HS := Lib.hid hs
  have HOf := Lib.hid (fun W hW => trend_Of A len cap l W hW hg hn)
  unfold LineP at HOf
  have HO := Lib.hid (fun W hW => (show Calls Try.prog 18 #[.int .i64 256, .slice A len cap] W (OfS W (serq 256 l) 256) from series_Of 256 A len cap l W hW (by omega) (by omega) (by omega)))
  have HF := Lib.hid (serq_fin 256 hg)
  have HSl := Lib.hid (show (serq 256 l).length ≤ 200 by have := serq_len 256 l; have := hs.1; omega)
  clear hs hg
  generalize serq 256 l = S at *
  unfold AheadP
  rcases ah_cases S ticks with ⟨h1, h2, h3⟩ | ⟨h1, h0, h2, h3⟩ | ⟨h1, h0, hp, hl, h2, h3⟩
  iterate 2
    · rw [h2, h3]
      rw [h1] at HOf
      clear h1 h2 h3
      generalize lineS S = L at *
      go_enter Try.func38, Try.ntmps38
      go_wp2_with (first
        | (go_at_call 23; refine (HOf.out _ (slice_keep HS.out D0.out.2)).mono ?_; rintro e v1 ⟨rfl, hb1⟩; have D1 := Lib.hid ((D0.out.call hb1).call ((Below.refl _ v1).alloc (Nat.le_refl _) (.cells L.row 43))); clear hb1)
        | (refine wpList_store_row rfl 34 (.tmp 4) (.tmp 24) rfl w.heap.size _ _ _ rfl rfl D1.out.1 (by rfl) (by kernel_rfl) (by simp [Value.oneCell']) ?_; intro w9 hb9 hg9))
      refine bodyPost_ret (results_row_tmp rfl _ _ w.heap.size _ _ _ rfl hb9 Try.underlying34 rfl (by kernel_rfl)) rfl ⟨rfl, D1.out.2.trans (Only.below hg9 (by omega) D1.out.2.size)⟩
  · rw [h2, h3]
    rw [h1] at HOf
    clear h1 h2 h3
    have HGd := line_good HF.out
    have hT : I64 (ahT S ticks) := satq_I64 _
    have HAt := Lib.hid (fun W => line_At (lineS S) (ahT S ticks) W HGd.1 hT)
    have htk := HF.out.ticks (i := S.length - 1) (j := S.length - 1) (Nat.le_refl _) (by omega)
    have HAdd := Lib.hid (fun W => (show Calls Try.prog 58 #[.int .i64 (tkq S (S.length - 1)), .int .i64 ticks] W (fun e w' => e = .returned (.int .i64 (ahT S ticks)) ∧ W = w') from sat_Add (tkq S (S.length - 1)) ticks W (by unfold I64; omega) ht))
    obtain ⟨S0, x, hSx⟩ : ∃ S0 x, S = S0 ++ [x] := ⟨S.dropLast, S.getLast (by intro h; rw [h] at hl; exact hl rfl), (List.dropLast_concat_getLast _).symm⟩
    have hxt : tkq S (S.length - 1) = x.tick := tkq_eq (by rw [hSx]; simp)
    have HLast := Lib.hid (fun g v W (h : SerAt W g v S 256) => series_Last g v S0 x 256 W (hSx ▸ h) (by have := HSl.out; rw [hSx, List.length_append] at this; omega))
    rw [hxt] at HAdd
    clear HGd hT htk hSx hxt hl ht
    generalize lnat (lineS S) (ahT S ticks) = V at *
    generalize ahT S ticks = T at *
    generalize lineS S = L at *
    have hmf : ∀ (fn : Fn) (first cap : Array Value) (w : World), (Instr.makeFunc fn first cap).run Try.prog w = .ok (.func fn first cap) w := fun _ _ _ _ => rfl
    go_enter Try.func38, Try.ntmps38
    focus (go_upto_region 6 with (first
      | (go_at_call 23; refine (HOf.out _ (slice_keep HS.out D0.out.2)).mono ?_; rintro e v1 ⟨rfl, hb1⟩; have D1 := Lib.hid ((D0.out.call hb1).call ((Below.refl _ v1).alloc (Nat.le_refl _) (.cells L.row 43))); have R1 := Lib.hid (Blk.new v1 43 L.row); clear hb1)
      | (go_at_call 18; refine (HO.out _ (slice_keep HS.out D1.out.2)).mono ?_; rintro e v2 ⟨g2, u2, rfl, hi2⟩; have I2 := Lib.hid hi2.1; have D2 := Lib.hid (D1.out.call hi2.2.2.1); have R2 := Lib.hid (R1.out.call hi2.2.2.1); clear hi2)
      | (go_at_call 77; refine (HLast.out g2 u2 _ I2.out).mono ?_; rintro e v3 ⟨rfl, hb3⟩; have B3 := hb3.trans ((Below.refl v3.heap.size v3).alloc (Nat.le_refl _) (.cells #[.int .i64 x.tick, .int .i64 x.value] 34) |>.mono hb3.size); have D3 := Lib.hid (D2.out.call B3); have R3 := Lib.hid (R2.out.call B3); have X3 := Lib.hid (Blk.new v3 34 #[.int .i64 x.tick, .int .i64 x.value]); clear hb3 B3)))
    generalize v3.alloc (.cells #[.int .i64 x.tick, .int .i64 x.value] 34) = W5 at *
    generalize v3.heap.size = g9 at *
    generalize v1.heap.size = g6 at *
    refine wp_region_any (by kernel_rfl) ?_; change wpAny _ _ _ _ _ _ _ (World.drew W5); refine any_of_anyG (late := fun _ => false) (S := fun wS => Below W5.heap.size W5 wS) _ _ _ _ ?_
    have S0 := (Below.refl W5.heap.size W5).drew
    refine anyG_takes (is := [0, 1, 2, 4, 5]) (vs := [_, .int .i64 x.tick, _, _, .func (.func 25) #[.agg L.row] #[]]) (m := 3) (listed2 := #[true, true, true, false, true, true, false, false]) (a2 := ⟨#[_, _, _, _, _, _, _, _, _, _, _, _, _, _, _, _, _, _, _, _, _, _, _, _, _, _, _, _, _, _, _, _, _, _, _, _, _, _, _, _, _, _, _], _⟩) (by kernel_rfl) (fun j hj => by simp at hj) (by kernel_rfl) (fun _ _ _ _ _ h => h) (Ys.cons rfl (Or.inl ⟨by rfl, fun W1 hW1 => by first | rfl | (go_simp; done) | (go_simp; with_reducible rfl)⟩) (Ys.cons rfl (Or.inl ⟨by rfl, fun W1 hW1 => by have c := (X3.out.call hW1).cellv (i := 0) (v := .int .i64 x.tick) rfl; go_simp⟩) (Ys.cons rfl (Or.inl ⟨by rfl, fun W1 hW1 => by first | rfl | (go_simp; done) | (go_simp; with_reducible rfl)⟩) (Ys.cons rfl (Or.inl ⟨by rfl, fun W1 hW1 => exec_load (ty := 43) (x := .tmp 6) rfl rfl (run_loadAt_blk _ _ _ _ _ _ (R3.out.call hW1) Try.underlying43 rfl (by first | kernel_rfl | exact info_num _))⟩) (Ys.cons rfl (Or.inl ⟨by rfl, fun W1 hW1 => by first | (go_simp; done) | (go_simp; rfl) | (have h9 := hmf (.func 25) #[.agg L.row] #[] W1; go_simp)⟩) (Ys.nil)))))) (S0) (by rfl) (by rfl) ?_
    refine anyG_one (k := 3) (by kernel_rfl) rfl (by rfl) (fun Q2 hQ2 => ?_); go_wp2_with (go_at_call 58; refine (HAdd.out _).mono ?_; rintro e v6 ⟨rfl, rfl⟩); refine hQ2 _ _ (fun _ => S0) ?_; clear hQ2 Q2
    refine anyG_takes (is := [6, 7]) (vs := [.int .i64 T, .func (.func 25) #[.agg L.row] #[]]) (m := 0) (listed2 := #[true, true, true, true, true, true, true, true]) (a2 := ⟨#[_, _, _, _, _, _, _, _, _, _, _, _, _, _, _, _, _, _, _, _, _, _, _, _, _, _, _, _, _, _, _, _, _, _, _, _, _, _, _, _, _, _, _], _⟩) (by kernel_rfl) (fun j hj => by simp at hj) (by kernel_rfl) (fun _ _ _ _ _ h => h) (Ys.cons rfl (Or.inl ⟨by rfl, fun W1 hW1 => by rfl⟩) (Ys.cons rfl (Or.inl ⟨by rfl, fun W1 hW1 => by rfl⟩) (Ys.nil))) (S0) (by rfl) (by rfl) ?_
    refine anyG_done (by kernel_rfl) ?_ _
    have D5 := Lib.hid (D3.out.call (S0))
    have eg : ∀ args w, (callFunc 25 args).run Try.prog w = .ok (.enter 25 args) w := fun _ _ => rfl
    go_wp2_with (first
      | (go_at_fn 25; refine (HAt.out _).mono ?_; rintro e v7 ⟨rfl, hb7⟩; have D7 := Lib.hid (D5.out.call hb7); clear hb7)
      | (refine wpList_store_row rfl 34 (.tmp 4) (.tmp 42) rfl w.heap.size _ _ _ rfl rfl D7.out.1 (by rfl) (by kernel_rfl) (by simp [Value.oneCell']) ?_; intro w9 hb9 hg9))
    refine bodyPost_ret (results_row_tmp rfl _ _ w.heap.size _ _ _ rfl hb9 Try.underlying34 rfl (by kernel_rfl)) rfl ⟨rfl, D7.out.2.trans (Only.below hg9 (by omega) D7.out.2.size)⟩
theorem ref52_Ahead (A : Option Addr) (len cap : Nat) (l : List Smp) (ticks : Int) (w : World) (hs : SmpsAre w A len cap l) (hg : ∀ x ∈ l, x.good) (hn : len ≤ 200) (ht : I64 ticks) :
    Calls Try.prog 39 #[.slice A len cap, .int .i64 ticks] w (AheadP (serq 256 l) ticks w) := by
  have D0 := Lib.hid (LJ2.start w)
  have HS := Lib.hid hs
  have HOf := Lib.hid (fun W hW => ref52_Of A len cap l W hW hg hn)
  unfold LineP at HOf
  have HO := Lib.hid (fun W hW => (show Calls Try.prog 21 #[.int .i64 256, .slice A len cap] W (PutS W (serq 256 l)) from ref08_Of 256 A len cap l W hW (by omega) (by omega) (by omega)))
  have HF := Lib.hid (serq_fin 256 hg)
  have HSl := Lib.hid (show (serq 256 l).length ≤ 200 by have := serq_len 256 l; have := hs.1; omega)
  clear hs hg
  generalize serq 256 l = S at *
  unfold AheadP
  rcases ah_cases S ticks with ⟨h1, h2, h3⟩ | ⟨h1, h0, h2, h3⟩ | ⟨h1, h0, hp, hl, h2, h3⟩
  iterate 2
    · rw [h2, h3]
      rw [h1] at HOf
      clear h1 h2 h3
      generalize lineS S = L at *
      go_enter Try.func39, Try.ntmps39
      go_wp2_with (first
        | (go_at_call 24; refine (HOf.out _ (slice_keep HS.out D0.out.2)).mono ?_; rintro e v1 ⟨rfl, hb1⟩; have D1 := Lib.hid ((D0.out.call hb1).call ((Below.refl _ v1).alloc (Nat.le_refl _) (.cells L.row 42))); clear hb1)
        | (refine wpList_store_row rfl 34 (.tmp 4) (.tmp 21) rfl w.heap.size _ _ _ rfl rfl D1.out.1 (by rfl) (by kernel_rfl) (by simp [Value.oneCell']) ?_; intro w9 hb9 hg9))
      refine bodyPost_ret (results_row_tmp rfl _ _ w.heap.size _ _ _ rfl hb9 Try.underlying34 rfl (by kernel_rfl)) rfl ⟨rfl, D1.out.2.trans (Only.below hg9 (by omega) D1.out.2.size)⟩
  · rw [h2, h3]
    rw [h1] at HOf
    clear h1 h2 h3
    have HGd := line_good HF.out
    have hT : I64 (ahT S ticks) := satq_I64 _
    have HAt := Lib.hid (fun W => ref52_At (lineS S) (ahT S ticks) W HGd.1 hT)
    have htk := HF.out.ticks (i := S.length - 1) (j := S.length - 1) (Nat.le_refl _) (by omega)
    obtain ⟨n, hn2, hn3⟩ : ∃ n : Nat, S.length = n + 1 ∧ S.length - 1 = n := ⟨S.length - 1, by omega, rfl⟩
    have HAdd := Lib.hid (fun W => (show Calls Try.prog 61 #[.int .i64 (tkq S (S.length - 1)), .int .i64 ticks] W (fun e w' => e = .returned (.int .i64 (ahT S ticks)) ∧ W = w') from ref_Add (tkq S (S.length - 1)) ticks W (by unfold I64; omega) ht))
    have HN3 := Lib.hid hn2
    have hsm : n ≤ 200 := by have := HSl.out; omega
    rw [hn3] at HAdd
    have hw1 : ((n + 1 : Nat) : Int) - 1 = (n : Int) := by omega
    have hw2 : IntKind.i64.wrap (((n + 1 : Nat) : Int) - 1) = (n : Int) := by rw [IntWalk.i64_in _ (by omega)]; omega
    have b1 : (n : Int) < ((n + 1 : Nat) : Int) := by omega
    clear HGd hT htk hn2 hn3 hl ht
    generalize lnat (lineS S) (ahT S ticks) = V at *
    generalize ahT S ticks = T at *
    generalize lineS S = L at *
    go_enter Try.func39, Try.ntmps39
    focus (go_upto_region 5 with (first
      | (go_at_call 24; refine (HOf.out _ (slice_keep HS.out D0.out.2)).mono ?_; rintro e v1 ⟨rfl, hb1⟩; have D1 := Lib.hid ((D0.out.call hb1).call ((Below.refl _ v1).alloc (Nat.le_refl _) (.cells L.row 42))); have R1 := Lib.hid (Blk.new v1 42 L.row); clear hb1)
      | (go_at_call 21; refine (HO.out _ (slice_keep HS.out D1.out.2)).mono ?_; rintro e v2 ⟨A2, n2, c2, rfl, hs2, hb2, -⟩; have D2 := Lib.hid (D1.out.call hb2); have R2 := Lib.hid (R1.out.call hb2); have hn2 : n2 = n + 1 := (by rw [← hs2.1, HN3.out]); subst hn2; have L2 := Lib.hid hs2; clear hs2 hb2)))
    obtain ⟨b, off, rfl, -, -, c1⟩ := ends_at L2.out (by omega)
    rw [Nat.add_sub_cancel] at c1
    go_wp2_with (first
      | (go_at_call 61; refine (HAdd.out _).mono ?_; rintro e v6 ⟨rfl, rfl⟩)
      | (refine Blk.load rfl 42 (.tmp 6) rfl _ _ _ _ rfl R2.out Try.underlying42 rfl (by kernel_rfl) ?_)
      | (go_at_call 26; refine (HAt.out _).mono ?_; rintro e v7 ⟨rfl, hb7⟩; have D7 := Lib.hid (D2.out.call hb7); clear hb7)
      | (refine wpList_store_row rfl 34 (.tmp 4) (.tmp 37) rfl w.heap.size _ _ _ rfl rfl D7.out.1 (by rfl) (by kernel_rfl) (by simp [Value.oneCell']) ?_; intro w9 hb9 hg9))
    refine bodyPost_ret (results_row_tmp rfl _ _ w.heap.size _ _ _ rfl hb9 Try.underlying34 rfl (by kernel_rfl)) rfl ⟨rfl, D7.out.2.trans (Only.below hg9 (by omega) D7.out.2.size)⟩
end Go.Proofs.Ytfeccjjheiillaa
/- trend.With: the walk. -/
namespace Go.Proofs.Ytfeccjjheiillaa
open Go.RowKit
set_option linter.unusedSimpArgs false
set_option linter.unusedVariables false
set_option maxHeartbeats 8000000
set_option maxRecDepth 100000
def withS (S : List Smp) (ticks : Int) : List Smp := if hasA S ticks = true then putv S 256 (aheadq S ticks) else S
def WithP (S : List Smp) (ticks : Int) (w : World) (e : Ending) (w' : World) : Prop := ∃ A n c, e = .returned (.slice A n c) ∧ SmpsAre w' A n c (withS S ticks) ∧ Below w.heap.size w w'
theorem trend_With (A : Option Addr) (len cap : Nat) (l : List Smp) (ticks : Int) (w : World) (hs : SmpsAre w A len cap l) (hg : ∀ x ∈ l, x.good) (hn : len ≤ 200) (ht : I64 ticks) :
    Calls Try.prog 41 #[.slice A len cap, .int .i64 ticks] w (WithP (serq 256 l) ticks w) := by
  have HS := Lib.hid hs
  have HAh := Lib.hid (fun W hW => trend_Ahead A len cap l ticks W hW hg hn ht)
  unfold AheadP at HAh
  have HO := Lib.hid (fun W hW => (show Calls Try.prog 18 #[.int .i64 256, .slice A len cap] W (OfS W (serq 256 l) 256) from series_Of 256 A len cap l W hW (by omega) (by omega) (by omega)))
  have HSr := Lib.hid (srt_serq 256 l)
  have HSl := Lib.hid (show (serq 256 l).length ≤ 200 by have := serq_len 256 l; have := hs.1; omega)
  have HE := Lib.hid (show withS (serq 256 l) ticks = if hasA (serq 256 l) ticks = true then putv (serq 256 l) 256 (aheadq (serq 256 l) ticks) else serq 256 l from rfl)
  have HLp := Lib.hid (fun x => len_putv (room := 256) (show (serq 256 l).length ≤ 256 by have := HSl.out; omega) (by omega) x)
  clear hs hg
  unfold WithP
  generalize withS (serq 256 l) ticks = WS at *
  generalize aheadq (serq 256 l) ticks = X at *
  generalize hasA (serq 256 l) ticks = HA at *
  generalize serq 256 l = S at *
  cases HA
  · go_enter Try.func41, Try.ntmps41
    go_wp2_with (first
      | (go_at_call 18; refine (HO.out _ HS.out).mono ?_; rintro e v1 ⟨g, u, rfl, hi⟩; have I1 := Lib.hid hi; clear hi)
      | (go_at_call 38; refine (HAh.out _ (slice_keep HS.out I1.out.2.2.1)).mono ?_; rintro e v2 ⟨rfl, hb2⟩; have I3 := Lib.hid ((I1.out.call hb2).call ((Below.refl _ v2).alloc (Nat.le_refl _) (.cells #[.int .i64 X.tick, .int .i64 X.value] 34))); clear hb2)
      | (go_at_call 20; refine (series_List g u S _ _ I3.out.1 (by have := HSl.out; omega)).mono ?_; rintro e v4 ⟨A4, n4, c4, rfl, ho4, hb4⟩; have L4 := Lib.hid (ho4.is smp_len); have I4 := Lib.hid (I3.out.call hb4); clear ho4 hb4))
    go_ret
    exact ⟨A4, n4, c4, rfl, by rw [HE.out]; exact L4.out, I4.out.2.2.1⟩
  · have HPv := Lib.hid (fun (g : Nat) (u : Value) W h => series_Putv g u S 256 X W h HSr.out (by have := HSl.out; omega) (by omega) (by omega))
    go_enter Try.func41, Try.ntmps41
    go_wp2_with (first
      | (go_at_call 18; refine (HO.out _ HS.out).mono ?_; rintro e v1 ⟨g, u, rfl, hi⟩; have I1 := Lib.hid hi; clear hi)
      | (go_at_call 38; refine (HAh.out _ (slice_keep HS.out I1.out.2.2.1)).mono ?_; rintro e v2 ⟨rfl, hb2⟩; have I3 := Lib.hid ((I1.out.call hb2).call ((Below.refl _ v2).alloc (Nat.le_refl _) (.cells #[.int .i64 X.tick, .int .i64 X.value] 34))); clear hb2)
      | (go_at_call 47; refine (HPv.out g u _ I3.out.1).mono ?_; intro e v3 hp; obtain ⟨rfl, u', hi⟩ := I3.out.post hp; have I5 := Lib.hid hi; clear hp hi)
      | (go_at_call 20; refine (series_List g u' _ _ _ I5.out.1 (by have := HLp.out X; omega)).mono ?_; rintro e v4 ⟨A4, n4, c4, rfl, ho4, hb4⟩; have L4 := Lib.hid (ho4.is smp_len); have I4 := Lib.hid (I5.out.call hb4); clear ho4 hb4))
    go_ret
    exact ⟨A4, n4, c4, rfl, by rw [HE.out]; exact L4.out, I4.out.2.2.1⟩
end Go.Proofs.Ytfeccjjheiillaa
/- Chapter 52's law: TrendAhead. -/
namespace Go.Proofs.Ytfeccjjheiillaa
open Go.RowKit
set_option linter.unusedSimpArgs false
set_option linter.unusedVariables false
set_option maxHeartbeats 8000000
set_option maxRecDepth 100000
theorem ahead_ok {S : List Smp} (hF : Fin S) {ticks : Int} (hh : hasA S ticks = true) : serErr (aheadq S ticks).tick (aheadq S ticks).value = 0 := by
  rcases ah_cases S ticks with ⟨-, -, h3⟩ | ⟨-, -, -, h3⟩ | ⟨-, -, hp, hl, h2, -⟩
  · rw [h3] at hh; cases hh
  · rw [h3] at hh; cases hh
  · rw [h2]
    have h0 := (hF.ticks (i := S.length - 1) (j := S.length - 1) (Nat.le_refl _) (by omega)).1
    refine serErr_ok ?_ ?_
    · show 0 ≤ satq (tkq S (S.length - 1) + ticks)
      unfold satq; (repeat' split) <;> omega
    · show 0 ≤ lnat _ _
      unfold lnat; split
      · omega
      · omega
theorem walk_TrendAhead (A : Option Addr) (len cap : Nat) (l : List Smp) (ticks : Int) (w : World) (hs : SmpsAre w A len cap l) (hg : ∀ x ∈ l, x.good) (ht : I64 ticks) :
    Calls Try.prog 10 #[.slice A len cap, .int .i64 ticks] w fun e w' => e = .returned (.bool true) ∧ Below w.heap.size w w' := by
  have HS := Lib.hid hs
  have hle : len ≤ cap := hs.2.1
  have hm : cap ≤ 9223372036854775807 := by have := hs.2.2.1; unfold maxLen at this; omega
  by_cases hl : 60 < len
  · have d0 : decide ((60 : Int) < (len : Int)) = true := by simp; omega
    clear hs hg ht
    go_enter Try.func10, Try.ntmps10
    go_wp2_with (go_at_call 22; refine (awake52 _).mono ?_; rintro e v1 ⟨rfl, hb1⟩; have E1 := Lib.hid hb1; clear hb1)
    go_ret
    exact ⟨rfl, E1.out⟩
  have d0 : decide ((60 : Int) < (len : Int)) = false := by simp; omega
  have HA1 := Lib.hid (fun W hW => trend_Ahead A len cap l ticks W hW hg (by omega) ht)
  have HA2 := Lib.hid (fun W hW => ref52_Ahead A len cap l ticks W hW hg (by omega) ht)
  have HWi := Lib.hid (fun W hW => trend_With A len cap l ticks W hW hg (by omega) ht)
  unfold AheadP at HA1 HA2
  unfold WithP at HWi
  have HO := Lib.hid (fun W hW => (show Calls Try.prog 21 #[.int .i64 256, .slice A len cap] W (PutS W (serq 256 l)) from ref08_Of 256 A len cap l W hW (by omega) (by omega) (by omega)))
  have HSr := Lib.hid (srt_serq 256 l)
  have HSl := Lib.hid (show (serq 256 l).length ≤ 200 by have := serq_len 256 l; have := hs.1; omega)
  have HW1 := Lib.hid (show hasA (serq 256 l) ticks = true → withS (serq 256 l) ticks = putq (serq 256 l) 256 (aheadq (serq 256 l) ticks) from fun h => by
    unfold withS; rw [if_pos h]; unfold putv; rw [if_pos (ahead_ok (serq_fin 256 hg) h)])
  have HW0 := Lib.hid (show hasA (serq 256 l) ticks = false → withS (serq 256 l) ticks = serq 256 l from fun h => by unfold withS; rw [h]; rfl)
  clear hs hg ht
  generalize withS (serq 256 l) ticks = WS at *
  generalize aheadq (serq 256 l) ticks = X at *
  generalize hasA (serq 256 l) ticks = HA at *
  generalize serq 256 l = S at *
  have HPu := Lib.hid (fun A2 n2 c2 W hW hn => ref08_Put A2 n2 c2 S 256 X W hW hn HSr.out (by omega))
  obtain ⟨q1, q2, q3⟩ := eq_smp X X
  rw [show smpEq X X = true by unfold smpEq; simp] at q2 q3
  cases HA
  · obtain rfl := HW0.out rfl
    have HSm := Lib.hid (fun A1 B1 n1 c1 n2 c2 W h1 h2 => ref08_Same A1 B1 n1 c1 n2 c2 WS WS W h1 h2)
    rw [show decide (WS = WS) = true from decide_eq_true rfl] at HSm
    go_enter Try.func10, Try.ntmps10
    go_wp2_with (first
      | (go_at_call 22; refine (awake52 _).mono ?_; rintro e v1 ⟨rfl, hb1⟩; have E1 := Lib.hid hb1; clear hb1)
      | (go_at_call 38; refine (HA1.out _ (slice_keep HS.out E1.out)).mono ?_; rintro e v2 ⟨rfl, hb2⟩; have B2 := hb2.trans ((Below.refl v2.heap.size v2).alloc (Nat.le_refl _) (.cells #[.int .i64 X.tick, .int .i64 X.value] 34) |>.mono hb2.size); have E2 := Lib.hid (E1.out.trans (B2.mono E1.out.size)); have R2 := Lib.hid (Blk.new v2 34 #[.int .i64 X.tick, .int .i64 X.value]); clear hb2 B2)
      | (go_at_call 39; refine (HA2.out _ (slice_keep HS.out E2.out)).mono ?_; rintro e v3 ⟨rfl, hb3⟩; have B3 := hb3.trans ((Below.refl v3.heap.size v3).alloc (Nat.le_refl _) (.cells #[.int .i64 X.tick, .int .i64 X.value] 34) |>.mono hb3.size); have E3 := Lib.hid (E2.out.trans (B3.mono E2.out.size)); have R3 := Lib.hid (R2.out.call B3); have Q3 := Lib.hid (Blk.new v3 34 #[.int .i64 X.tick, .int .i64 X.value]); clear hb3 B3)
      | (go_at_call 21; refine (HO.out _ (slice_keep HS.out E3.out)).mono ?_; rintro e v4 ⟨A4, n4, c4, rfl, hs4, hb4, -⟩; have E4 := Lib.hid (E3.out.trans (hb4.mono E3.out.size)); have R4 := Lib.hid (R3.out.call hb4); have Q4 := Lib.hid (Q3.out.call hb4); have L4 := Lib.hid hs4; clear hs4 hb4)
      | (refine Blk.load rfl 34 (.tmp 5) rfl _ _ _ _ rfl R4.out Try.underlying34 rfl (by kernel_rfl) ?_)
      | (refine Blk.load rfl 34 (.tmp 7) rfl _ _ _ _ rfl Q4.out Try.underlying34 rfl (by kernel_rfl) ?_)
      | (go_at_call 41; refine (HWi.out _ (slice_keep HS.out E4.out)).mono ?_; rintro e v5 ⟨A5, n5, c5, rfl, hs5, hb5⟩; have E5 := Lib.hid (E4.out.trans (hb5.mono E4.out.size)); have L5 := Lib.hid hs5; have M5 := Lib.hid (slice_keep L4.out hb5); clear hs5 hb5)
      | (go_at_call 19; refine (HSm.out _ _ _ _ _ _ _ L5.out M5.out).mono ?_; rintro e v6 ⟨rfl, hb6⟩; have E6 := Lib.hid (E5.out.trans (hb6.mono E5.out.size)); clear hb6))
    go_ret
    exact ⟨rfl, E6.out⟩
  · obtain rfl := HW1.out rfl
    have HSm := Lib.hid (fun A1 B1 n1 c1 n2 c2 W h1 h2 => ref08_Same A1 B1 n1 c1 n2 c2 (putq S 256 X) (putq S 256 X) W h1 h2)
    rw [show decide (putq S 256 X = putq S 256 X) = true from decide_eq_true rfl] at HSm
    go_enter Try.func10, Try.ntmps10
    go_wp2_with (first
      | (go_at_call 22; refine (awake52 _).mono ?_; rintro e v1 ⟨rfl, hb1⟩; have E1 := Lib.hid hb1; clear hb1)
      | (go_at_call 38; refine (HA1.out _ (slice_keep HS.out E1.out)).mono ?_; rintro e v2 ⟨rfl, hb2⟩; have B2 := hb2.trans ((Below.refl v2.heap.size v2).alloc (Nat.le_refl _) (.cells #[.int .i64 X.tick, .int .i64 X.value] 34) |>.mono hb2.size); have E2 := Lib.hid (E1.out.trans (B2.mono E1.out.size)); have R2 := Lib.hid (Blk.new v2 34 #[.int .i64 X.tick, .int .i64 X.value]); clear hb2 B2)
      | (go_at_call 39; refine (HA2.out _ (slice_keep HS.out E2.out)).mono ?_; rintro e v3 ⟨rfl, hb3⟩; have B3 := hb3.trans ((Below.refl v3.heap.size v3).alloc (Nat.le_refl _) (.cells #[.int .i64 X.tick, .int .i64 X.value] 34) |>.mono hb3.size); have E3 := Lib.hid (E2.out.trans (B3.mono E2.out.size)); have R3 := Lib.hid (R2.out.call B3); have Q3 := Lib.hid (Blk.new v3 34 #[.int .i64 X.tick, .int .i64 X.value]); clear hb3 B3)
      | (go_at_call 21; refine (HO.out _ (slice_keep HS.out E3.out)).mono ?_; rintro e v4 ⟨A4, n4, c4, rfl, hs4, hb4, -⟩; have E4 := Lib.hid (E3.out.trans (hb4.mono E3.out.size)); have R4 := Lib.hid (R3.out.call hb4); have Q4 := Lib.hid (Q3.out.call hb4); have L4 := Lib.hid hs4; clear hs4 hb4)
      | (refine Blk.load rfl 34 (.tmp 5) rfl _ _ _ _ rfl R7.out Try.underlying34 rfl (by kernel_rfl) ?_)
      | (refine Blk.load rfl 34 (.tmp 7) rfl _ _ _ _ rfl Q7.out Try.underlying34 rfl (by kernel_rfl) ?_)
      | (refine Blk.load rfl 34 (.tmp 7) rfl _ _ _ _ rfl Q4.out Try.underlying34 rfl (by kernel_rfl) ?_)
      | (go_at_call 40; refine (HPu.out A4 n4 c4 _ L4.out (by rw [← L4.out.1]; have := HSl.out; omega)).mono ?_; rintro e v7 ⟨A7, n7, c7, rfl, hs7, hb7, -⟩; have E7 := Lib.hid (E4.out.trans (hb7.mono E4.out.size)); have R7 := Lib.hid (R4.out.call hb7); have Q7 := Lib.hid (Q4.out.call hb7); have L7 := Lib.hid hs7; clear hs7 hb7)
      | (go_at_call 41; refine (HWi.out _ (slice_keep HS.out E7.out)).mono ?_; rintro e v5 ⟨A5, n5, c5, rfl, hs5, hb5⟩; have E5 := Lib.hid (E7.out.trans (hb5.mono E7.out.size)); have L5 := Lib.hid hs5; have M5 := Lib.hid (slice_keep L7.out hb5); clear hs5 hb5)
      | (go_at_call 19; refine (HSm.out _ _ _ _ _ _ _ L5.out M5.out).mono ?_; rintro e v6 ⟨rfl, hb6⟩; have E6 := Lib.hid (E5.out.trans (hb6.mono E5.out.size)); clear hb6))
    go_ret
    exact ⟨rfl, E6.out⟩
end Go.Proofs.Ytfeccjjheiillaa
