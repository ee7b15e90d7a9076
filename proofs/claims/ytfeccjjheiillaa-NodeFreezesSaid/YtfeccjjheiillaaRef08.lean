/- The reference's series: Right, Trim, Put. -/
import Derived.Test.YtfeccjjheiillaaSlib3
import Derived.Test.YtfeccjjheiillaaSerP
import Derived.BigQuiet
namespace Go.Proofs.Ytfeccjjheiillaa
open Go.RowKit
set_option linter.unusedSimpArgs false
set_option linter.unusedVariables false
set_option maxHeartbeats 4000000
set_option maxRecDepth 100000
theorem ref08_Right (tick value : Int) (w : World) :
    Calls Try.prog 50 #[.int .i64 tick, .int .i64 value] w fun e w' => e = .returned (.int .i64 (serErr tick value)) ∧ w = w' := by
  by_cases h1 : tick < 0
  · rw [serErr_tick h1]
    go_enter Try.func50, Try.ntmps50
    go_wp2
    go_ret
    exact ⟨rfl, rfl⟩
  · by_cases h2 : value < 0
    · rw [serErr_value (by omega) h2]
      go_enter Try.func50, Try.ntmps50
      go_wp2
      go_ret
      exact ⟨rfl, rfl⟩
    · rw [serErr_ok (by omega) (by omega)]
      go_enter Try.func50, Try.ntmps50
      go_wp2
      go_ret
      exact ⟨rfl, rfl⟩
theorem froms_yes {l : List Smp} {t : Int} {k : Nat} {x : Smp} (h : l[k]? = some x) (h1 : t ≤ x.tick) : froms (l.take (k + 1)) t = froms (l.take k) t ++ [x] := by
  rw [take_snoc2 h]; unfold froms; rw [List.filter_append]; simp [h1]
theorem froms_no {l : List Smp} {t : Int} {k : Nat} {x : Smp} (h : l[k]? = some x) (h1 : ¬ t ≤ x.tick) : froms (l.take (k + 1)) t = froms (l.take k) t := by
  rw [take_snoc2 h]; unfold froms; rw [List.filter_append]; simp; omega
theorem ref08_Trim (A : Option Addr) (len cap : Nat) (l : List Smp) (cut : Int) (w : World) (hs : SmpsAre w A len cap l) (hn : len ≤ 10000) :
    Calls Try.prog 70 #[.slice A len cap, .int .i64 cut] w (CloneS w (froms l cut)) := by
  have HS := Lib.hid hs
  have HL := Lib.hid hs.1
  clear hs
  go_enter Try.func70, Try.ntmps70
  go_wp2
  go_loopw [5, 6] (fun v i wr => ∃ k : Nat, k ≤ len ∧ i = .int .i64 k ∧ OwnS wr w.heap.size v (froms (l.take k) cut) ∧ Below w.heap.size w wr) (fun _ i _ => len - (intOf i).toNat)
  case atStart => exact ⟨0, Nat.zero_le _, rfl, Own.nil _ _ _ _ _, Below.refl _ _⟩
  case round =>
    obtain ⟨k, hk, rfl, hown, hbel⟩ := hrel
    by_cases hlt : k < len
    · obtain ⟨b, off, x, rfl, hx, hb, t0, t1⟩ := HS.out.at_ hlt
      have kt0 := (hbel.cell (p := ⟨b, off + k * 2, none⟩) hb).trans t0
      have kt1 := (hbel.cell (p := ⟨b, off + k * 2 + 1, none⟩) hb).trans t1
      have hle : (froms (l.take k) cut).length < 1000000 := by
        have h1 : (froms (l.take k) cut).length ≤ (l.take k).length := List.length_filter_le _ _
        have h2 : (l.take k).length ≤ l.length := by rw [List.length_take]; omega
        have h3 := HL.out
        omega
      have hki : (k : Int) < (len : Int) := by omega
      have HX := Lib.hid hx
      have HB := Lib.hid hbel
      clear hx hb t0 t1
      by_cases h1 : cut ≤ x.tick
      · have HN := Lib.hid (froms_yes HX.out h1)
        have hsz := hbel.size
        clear hbel
        go_wp2_with (at_builtin; refine push_smp _ rfl _ _ rfl w.heap.size _ _ rfl (hown.alloc _) wr.heap.size _ 1 x rfl (Blk.new wr _ _) hle (by simp; omega) ?_; intro v2 w2 ho2 hb2 hg2)
        go_roundw
        case rel => exact ⟨k + 1, by omega, by go_num, by rw [HN.out]; exact ho2, (HB.out.alloc HB.out.size _).trans hb2⟩
        case measure => simp [intOf]; omega
      · have HN := Lib.hid (froms_no HX.out h1)
        clear hbel
        go_wp2
        go_roundw
        case rel => exact ⟨k + 1, by omega, by go_num, by rw [HN.out]; exact hown, HB.out⟩
        case measure => simp [intOf]; omega
    · have hE : l.take k = l := List.take_of_length_le (by have := HL.out; omega)
      have HO := Lib.hid hown
      have HB := Lib.hid hbel
      rw [hE] at HO
      clear hE hown hbel
      go_wp2
      go_ret
      exact CloneS.mk HO.out HB.out
/-- What a Put of the reference's keeps: all that there was, and its own x. -/
def RS (w : World) (x : Smp) (wr : World) : Prop := Below w.heap.size w wr ∧ Blk wr w.heap.size 34 #[.int .i64 x.tick, .int .i64 x.value]
theorem RS.start (w : World) (x : Smp) : RS w x (w.alloc (.cells #[.int .i64 x.tick, .int .i64 x.value] 34)) := ⟨by go_grown, Blk.new _ _ _⟩
theorem RS.lt {w wr : World} {x : Smp} (h : RS w x wr) : w.heap.size + 1 ≤ wr.heap.size := h.2.lt
theorem RS.drewN {w wr : World} {x : Smp} (h : RS w x wr) (n : Nat) : RS w x (wr.drewN n) := ⟨below_drewN h.1 n, h.2⟩
theorem RS.push {w wr w2 : World} {x : Smp} (h : RS w x wr) (o : Obj) (hb : Below (w.heap.size + 1) (wr.alloc o) w2) : RS w x w2 :=
  ⟨(h.1.alloc h.1.size o).trans (hb.mono (by omega)), (h.2.alloc o).below hb (by omega)⟩
theorem RS.facts {w wr : World} {x : Smp} (h : RS w x wr) {b o : Nat} {v : Value} (hb : b < w.heap.size) (hc : w.cell? ⟨b, o, none⟩ = some v) : wr.cell? ⟨b, o, none⟩ = some v := (h.1.cell (p := ⟨b, o, none⟩) hb).trans hc
theorem RS.x0 {w wr : World} {x : Smp} (h : RS w x wr) : wr.cell? ⟨w.heap.size, 0, none⟩ = some (.int .i64 x.tick) ∧ wr.cell? ⟨w.heap.size, 1, none⟩ = some (.int .i64 x.value) := ⟨h.2.cellv rfl, h.2.cellv rfl⟩
def PutS (w : World) (l : List Smp) (e : Ending) (w' : World) : Prop := ∃ A n c, e = .returned (.slice A n c) ∧ SmpsAre w' A n c l ∧ Below w.heap.size w w' ∧ (∀ a, A = some a → w.heap.size ≤ a.block ∧ a.block < w'.heap.size)
theorem slice_tail {w : World} {base h n c : Nat} {y : Smp} {l : List Smp} (ho : OwnS w base (.slice (some ⟨h, 0, none⟩) n c) (y :: l)) : (c = 1 → l = []) ∧ (c ≠ 1 → SmpsAre w (some ⟨h, 2, none⟩) (n - 1) (c - 1) l) ∧ (l = [] → SmpsAre w (some ⟨h, 0, none⟩) (n - 1) (c - 1) l) := by
  have hs := ho.is smp_len
  have hl := hs.1
  have hnc := hs.2.1
  simp only [List.length_cons] at hl
  refine ⟨fun hc => List.eq_nil_of_length_eq_zero (by omega), fun hc => ⟨by omega, by omega, by have := hs.2.2.1; omega, (fun h => by cases h), fun a ha => ?_⟩, fun hl0 => ⟨by rw [hl0]; simp; rw [hl0] at hl; simp at hl; omega, by omega, by have := hs.2.2.1; omega, (fun h => by cases h), fun a ha => ?_⟩⟩
  · cases ha
    obtain ⟨h1, h2⟩ := hs.2.2.2.2 _ rfl
    refine ⟨fun i x hi j v hj => ?_, fun _ => h2 (by omega)⟩
    have := h1 (i + 1) x (by simpa using hi) j v hj
    rw [Addr.add_lit] at this ⊢
    rw [show 2 + (i * 2 + j) = 0 + ((i + 1) * 2 + j) by omega]
    exact this
  · cases ha
    obtain ⟨h1, h2⟩ := hs.2.2.2.2 _ rfl
    exact ⟨fun i x hi j v hj => by rw [hl0] at hi; simp at hi, fun _ => h2 (by omega)⟩
end Go.Proofs.Ytfeccjjheiillaa
