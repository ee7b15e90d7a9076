/- Several texts in one. -/
import Derived.Test.YtkjmacdekfbfhaaBRMerge
import Derived.Test.YtkjmacdekfbfhaaWin2
import Derived.Test.YtkjmacdekfbfhaaMeanP
import Derived.Test.YtkjmacdekfbfhaaDec2
import Derived.Test.YtkjmacdekfbfhaaNum6
import Derived.Test.YtkjmacdekfbfhaaRegT
/- Samples by stretches: plain facts; blend.Start and its reference. -/
namespace Go.Proofs.Ytkjmacdekfbfhaa
open Go.RowKit
set_option linter.unusedSimpArgs false
set_option linter.unusedVariables false
set_option maxHeartbeats 2000000
set_option maxRecDepth 100000
def startq (t w : Int) : Int := if w < 1 then t else satq (t / w * w)
theorem startq_I64 {t w : Int} (h : I64 t) : I64 (startq t w) := by unfold startq; split; exact h; exact satq_I64 _
def grp (wd : Int) (l : List Smp) (t : Int) : List Smp := l.filter fun x => decide (startq x.tick wd = t)
def stl (wd : Int) (l : List Smp) : List Smp := l.map fun x => (⟨startq x.tick wd, 0⟩ : Smp)
def thinq (wd : Int) (l : List Smp) : List Smp := (mrgq (stl wd l)).map fun s => (⟨s.tick, meanq (valq (grp wd l s.tick))⟩ : Smp)
def meanF (wd : Int) (l : List Smp) : Int → Option Int := fun t => if hasT (stl wd l) t = true then some (meanq (valq (grp wd l t))) else none
theorem stl_has (wd : Int) (l : List Smp) (t : Int) : hasT (stl wd l) t = true ↔ grp wd l t ≠ [] := by
  unfold hasT stl grp
  rw [List.any_map, List.any_eq_true]
  constructor
  · rintro ⟨x, hx, he⟩ h0
    have : x ∈ l.filter fun x => decide (startq x.tick wd = t) := List.mem_filter.2 ⟨hx, he⟩
    rw [h0] at this; simp at this
  · intro h
    obtain ⟨x, hx⟩ := List.exists_mem_of_ne_nil _ h
    obtain ⟨h1, h2⟩ := List.mem_filter.1 hx
    exact ⟨x, h1, h2⟩
theorem stl_good {wd : Int} {l : List Smp} (h : ∀ x ∈ l, x.good) : ∀ x ∈ stl wd l, x.good := fun x hx => by
  obtain ⟨y, hy, rfl⟩ := List.mem_map.1 hx
  exact ⟨startq_I64 (h y hy).1, (by unfold I64; decide : I64 (0 : Int))⟩
theorem grp_snoc (wd : Int) (l : List Smp) (x : Smp) (t : Int) : grp wd (l ++ [x]) t = grp wd l t ++ if startq x.tick wd = t then [x] else [] := by
  unfold grp; rw [List.filter_append]
  by_cases h : startq x.tick wd = t <;> simp [h]
theorem grp_good {wd : Int} {l : List Smp} (h : ∀ x ∈ l, x.good) (t : Int) : ∀ x ∈ grp wd l t, x.good := fun x hx => h x (List.mem_filter.1 hx).1
theorem grp_len (wd : Int) (l : List Smp) (t : Int) : (grp wd l t).length ≤ l.length := List.length_filter_le _ _
theorem mrg_stl_is (wd : Int) (l : List Smp) : IsM (mrgq (stl wd l)) (stl wd l) := mrgq_is _ fun x hx => by
  obtain ⟨y, -, rfl⟩ := List.mem_map.1 hx
  exact (by decide : (0 : Int) ≤ mxI)
theorem thinq_asc (wd : Int) (l : List Smp) : Asc (thinq wd l) := by
  unfold Asc thinq
  rw [List.pairwise_map]
  exact (mrg_stl_is wd l).1
theorem thinq_mem (wd : Int) (l : List Smp) (x : Smp) : x ∈ thinq wd l ↔ hasT (stl wd l) x.tick = true ∧ x.value = meanq (valq (grp wd l x.tick)) := by
  unfold thinq
  rw [List.mem_map]
  constructor
  · rintro ⟨s, hs, rfl⟩
    refine ⟨?_, rfl⟩
    rw [← (mrg_stl_is wd l).2.1]
    exact List.any_eq_true.2 ⟨s, hs, by simp⟩
  · rintro ⟨h1, h2⟩
    rw [← (mrg_stl_is wd l).2.1] at h1
    obtain ⟨s, hs, he⟩ := List.any_eq_true.1 h1
    have he : s.tick = x.tick := by simpa using he
    refine ⟨s, hs, ?_⟩
    obtain ⟨a, b⟩ := x
    simp only at he h2 ⊢
    rw [he, ← h2]
theorem mapS_thin {w : World} {b : Nat} {ks : List Int} {wd : Int} {l : List Smp} (h : MapIs Try.prog w tI64 b (tabI (meanF wd l)) ks) : mapS (meanF wd l) ks = thinq wd l := by
  obtain ⟨D, -, hv⟩ := h
  have hk : ∀ t, t ∈ ks ↔ hasT (stl wd l) t = true := fun t => by
    rw [hv.2.2.1 t]
    unfold tabI meanF
    by_cases e : hasT (stl wd l) t = true <;> simp [e]
  refine asc_ext ?_ (thinq_asc wd l) fun x => ?_
  · unfold Asc mapS
    rw [List.pairwise_map]
    have hs := List.pairwise_mergeSort (le := fun x y : Int => decide (x ≤ y)) (fun a b c h1 h2 => by simp at *; omega) (fun a b => by simp; omega) ks
    have hn : (srtI ks).Nodup := (List.mergeSort_perm ks _).symm.nodup hv.2.1
    exact (hs.and hn).imp fun {a b} h => by have h1 := h.1; have h2 := h.2; simp at h1; simp only; omega
  · rw [thinq_mem]
    unfold mapS
    rw [List.mem_map]
    constructor
    · rintro ⟨t, ht, rfl⟩
      have h1 := (hk t).1 ((srtI_mem ks t).1 ht)
      refine ⟨h1, ?_⟩
      unfold meanF
      simp only [h1, if_true, Option.getD_some]
    · rintro ⟨h1, h2⟩
      refine ⟨x.tick, (srtI_mem ks _).2 ((hk _).2 h1), ?_⟩
      unfold meanF
      rw [if_pos h1, Option.getD_some, ← h2]
theorem div_I64 {t wd : Int} (ht : I64 t) (h : ¬ wd < 1) : I64 (t / wd) := by
  unfold I64 at *
  rcases (show t < 0 ∨ 0 ≤ t by omega) with hn | hp
  · have h4 : t ≤ t / wd := Int.le_ediv_of_mul_le (a := t) (b := t) (c := wd) (by omega) (by
      have := Int.mul_le_mul_of_nonpos_left (a := t) (b := wd) (c := 1) (by omega) (by omega)
      omega)
    have h5 : t / wd < 0 := Int.ediv_neg_of_neg_of_pos hn (by omega)
    omega
  · have h4 : t / wd ≤ t := Int.ediv_le_self _ hp
    have h5 : 0 ≤ t / wd := Int.ediv_nonneg hp (by omega)
    omega
theorem blend_Start (t wd : Int) (w : World) (ht : I64 t) (hw : I64 wd) : Calls Try.prog 36 #[.int .i64 t, .int .i64 wd] w fun e w' => e = .returned (.int .i64 (startq t wd)) ∧ w = w' := by
  by_cases h : wd < 1
  · have HQ := Lib.hid (show startq t wd = t from if_pos h)
    have d : decide (wd < 1) = true := by simpa using h
    clear h
    go_enter Try.func36, Try.ntmps36
    go_wp2
    go_ret
    exact ⟨ret_int HQ.out.symm, rfl⟩
  · have hf : floorq t wd = t / wd := by unfold floorq; rw [if_neg h]
    have hb := div_I64 ht h
    have HF := sat_Floor t wd w ht hw
    rw [hf] at HF
    have HF := Lib.hid HF
    have HM := Lib.hid (sat_Mul (t / wd) wd w hb hw)
    have HQ := Lib.hid (show startq t wd = satq (t / wd * wd) from if_neg h)
    have d : decide (wd < 1) = false := by simpa using h
    generalize t / wd = F at *
    clear hf hb
    go_enter Try.func36, Try.ntmps36
    go_wp2_with (first
      | (go_at_call 75; refine HF.out.mono ?_; rintro e w1 ⟨rfl, rfl⟩)
      | (go_at_call 80; refine HM.out.mono ?_; rintro e w1 ⟨rfl, rfl⟩))
    go_ret
    exact ⟨ret_int HQ.out.symm, rfl⟩
theorem ref46_Start (t wd : Int) (w : World) (ht : I64 t) (hw : I64 wd) : Calls Try.prog 38 #[.int .i64 t, .int .i64 wd] w fun e w' => e = .returned (.int .i64 (startq t wd)) ∧ w = w' := by
  by_cases h : wd < 1
  · have HQ := Lib.hid (show startq t wd = t from if_pos h)
    have d : decide (wd < 1) = true := by simpa using h
    clear h
    go_enter Try.func38, Try.ntmps38
    go_wp2
    go_ret
    exact ⟨ret_int HQ.out.symm, rfl⟩
  · have hf : floorq t wd = t / wd := by unfold floorq; rw [if_neg h]
    have hb := div_I64 ht h
    have HF := ref_Floor t wd w ht hw
    rw [hf] at HF
    have HF := Lib.hid HF
    have HM := Lib.hid (fun W => ref_Mul (t / wd) wd W hb hw)
    have HQ := Lib.hid (show startq t wd = satq (t / wd * wd) from if_neg h)
    have d : decide (wd < 1) = false := by simpa using h
    generalize t / wd = F at *
    clear hf hb
    go_enter Try.func38, Try.ntmps38
    go_wp2_with (first
      | (go_at_call 83; refine HF.out.mono ?_; rintro e w1 ⟨rfl, rfl⟩)
      | (go_at_call 82; refine (HM.out _).mono ?_; rintro e w1 ⟨rfl, rfl⟩))
    go_ret
    exact ⟨ret_int HQ.out.symm, rfl⟩
end Go.Proofs.Ytkjmacdekfbfhaa
/- Plain facts of the laws of blend. -/
namespace Go.Proofs.Ytkjmacdekfbfhaa
set_option linter.unusedSimpArgs false
set_option linter.unusedVariables false
set_option maxHeartbeats 2000000
theorem top_of {l : List Smp} (h : ∀ x ∈ l, x.good) : ∀ x ∈ l, x.value ≤ mxI := fun x hx => by
  have := (h x hx).2; unfold I64 at this; unfold mxI; omega
theorem good3 {a b c : List Smp} (ha : ∀ x ∈ a, x.good) (hb : ∀ x ∈ b, x.good) (hc : ∀ x ∈ c, x.good) : ∀ x ∈ a ++ b ++ c, x.good := fun x hx => by
  rcases List.mem_append.1 hx with hx | hx
  · rcases List.mem_append.1 hx with hx | hx
    · exact ha x hx
    · exact hb x hx
  · exact hc x hx
theorem mrgq_good {l : List Smp} (h : ∀ x ∈ l, x.good) : ∀ x ∈ mrgq l, x.good := fun x hx => by
  have hm := mrgq_is l (top_of h)
  have hp := hm.pos x hx
  obtain ⟨y, hy, hyt⟩ := List.any_eq_true.1 (show hasT l x.tick = true by rw [← hm.2.1]; exact List.any_eq_true.2 ⟨x, hx, by simp⟩)
  have hyt : y.tick = x.tick := by simpa using hyt
  refine ⟨hyt ▸ (h y hy).1, ?_⟩
  unfold mxI at hp; unfold I64; omega
theorem mrg_rot {a b c : List Smp} (ha : ∀ x ∈ a, x.good) (hb : ∀ x ∈ b, x.good) (hc : ∀ x ∈ c, x.good) : mrgq (c ++ a ++ b) = mrgq (a ++ b ++ c) :=
  IsM.uniq (IsM.rot (mrgq_is _ (top_of (good3 hc ha hb)))) (mrgq_is _ (top_of (good3 ha hb hc)))
theorem mrg_nest {a b c : List Smp} (ha : ∀ x ∈ a, x.good) (hb : ∀ x ∈ b, x.good) (hc : ∀ x ∈ c, x.good) : mrgq (mrgq (a ++ b) ++ c) = mrgq (a ++ b ++ c) := by
  have hab : ∀ x ∈ a ++ b, x.good := fun x hx => by
    rcases List.mem_append.1 hx with hx | hx
    · exact ha x hx
    · exact hb x hx
  have hm : ∀ x ∈ mrgq (a ++ b) ++ c, x.good := fun x hx => by
    rcases List.mem_append.1 hx with hx | hx
    · exact mrgq_good hab x hx
    · exact hc x hx
  exact IsM.uniq (IsM.nest (mrgq_is _ (top_of hab)) (mrgq_is _ (top_of hm))) (mrgq_is _ (top_of (good3 ha hb hc)))
theorem start_le (t wd : Int) : startq t wd ≤ t ∨ startq t wd = -9223372036854775808 := by
  unfold startq
  split
  · exact .inl (Int.le_refl _)
  · have h1 : t / wd * wd ≤ t := Int.ediv_mul_le t (by omega)
    unfold satq
    omega
theorem start_idem {t wd : Int} (ht : I64 t) (h : startq t wd ≠ -9223372036854775808) : startq (startq t wd) wd = startq t wd := by
  by_cases hw : wd < 1
  · simp [startq, hw]
  · have h1 : t / wd * wd ≤ t := Int.ediv_mul_le t (by omega)
    have e : startq t wd = t / wd * wd := by
      unfold startq at h ⊢
      rw [if_neg hw] at h ⊢
      unfold I64 at ht
      unfold satq at h ⊢
      omega
    have e2 : satq (t / wd * wd) = t / wd * wd := by
      rw [← e]
      exact satq_id (startq_I64 ht)
    rw [e]
    unfold startq
    rw [if_neg hw, Int.mul_ediv_cancel _ (by omega), e2]
theorem mean_one {v : Int} (h0 : 0 ≤ v) (h : I64 v) : meanq [v] = v := by
  rw [(mean_plain (l := [v]) (fun x hx => by simp at hx; rw [hx]; exact h) (by simp)).1]
  unfold upq totq
  simp
  omega
theorem asc_filter : ∀ {l : List Smp}, Asc l → ∀ y ∈ l, (l.filter fun x => decide (x.tick = y.tick)) = [y]
  | [], _, y, hy => by simp at hy
  | z :: l, h, y, hy => by
    obtain ⟨p1, p2⟩ := List.pairwise_cons.1 h
    rcases List.mem_cons.1 hy with rfl | hy
    · rw [List.filter_cons, if_pos (by simp), List.filter_eq_nil_iff.2 fun x hx => by have := p1 x hx; simp; omega]
    · rw [List.filter_cons, if_neg (by have := p1 y hy; simp; omega), asc_filter p2 y hy]
theorem grp_one {wd : Int} {L : List Smp} (hA : Asc L) (hS : ∀ x ∈ L, startq x.tick wd = x.tick) {y : Smp} (hy : y ∈ L) : grp wd L y.tick = [y] := by
  unfold grp
  rw [← asc_filter hA y hy]
  exact List.filter_congr fun x hx => by rw [hS x hx]
theorem thin_fix {wd : Int} {L : List Smp} (hA : Asc L) (hS : ∀ x ∈ L, startq x.tick wd = x.tick) (hV : ∀ x ∈ L, 0 ≤ x.value ∧ I64 x.value) : thinq wd L = L := by
  refine asc_ext (thinq_asc wd L) hA fun x => ?_
  rw [thinq_mem]
  have hm : ∀ y ∈ L, meanq (valq [y]) = y.value := fun y hy => by
    have : valq [y] = [y.value] := by unfold valq; simp; have := (hV y hy).1; omega
    rw [this, mean_one (hV y hy).1 (hV y hy).2]
  constructor
  · rintro ⟨h1, h2⟩
    obtain ⟨z, hz, hzt⟩ := List.any_eq_true.1 h1
    obtain ⟨y, hy, rfl⟩ := List.mem_map.1 hz
    have hzt : startq y.tick wd = x.tick := by simpa using hzt
    rw [hS y hy] at hzt
    rw [← hzt, grp_one hA hS hy, hm y hy] at h2
    obtain ⟨a, b⟩ := x
    obtain ⟨c, d⟩ := y
    simp only at hzt h2
    rw [← hzt, h2]; exact hy
  · intro hx
    refine ⟨(stl_has wd L x.tick).2 (by rw [grp_one hA hS hx]; simp), ?_⟩
    rw [grp_one hA hS hx, hm x hx]
theorem valq_good {l : List Smp} (h : ∀ x ∈ l, x.good) : ∀ v ∈ valq l, I64 v := fun v hv => by
  obtain ⟨x, hx, rfl⟩ := List.mem_map.1 hv
  have := (h x hx).2
  unfold I64 at *; omega
theorem thin_vals {wd : Int} {l : List Smp} (hg : ∀ x ∈ l, x.good) : ∀ x ∈ thinq wd l, (0 ≤ x.value ∧ I64 x.value) ∧ ∃ y ∈ l, startq y.tick wd = x.tick := fun x hx => by
  obtain ⟨h1, h2⟩ := (thinq_mem wd l x).1 hx
  refine ⟨?_, ?_⟩
  · have hne := (stl_has wd l x.tick).1 h1
    have := mean_plain (l := valq (grp wd l x.tick)) (valq_good (grp_good hg _)) (by rw [valq_len]; exact List.length_pos_iff.2 hne)
    rw [h2, this.1]
    have h3 := this.2
    exact ⟨by omega, by unfold I64; omega⟩
  · obtain ⟨z, hz, hzt⟩ := List.any_eq_true.1 h1
    obtain ⟨y, hy, rfl⟩ := List.mem_map.1 hz
    exact ⟨y, hy, by simpa using hzt⟩
theorem thin_good {wd : Int} {l : List Smp} (hg : ∀ x ∈ l, x.good) : ∀ x ∈ thinq wd l, x.good := fun x hx => by
  obtain ⟨h1, y, hy, h2⟩ := thin_vals hg x hx
  exact ⟨h2 ▸ startq_I64 (hg y hy).1, h1.2⟩
theorem thin_again {wd : Int} {l : List Smp} (hg : ∀ x ∈ l, x.good) (h : ∀ x ∈ thinq wd l, ¬ x.tick ≤ -9223372036854775808) : thinq wd (thinq wd l) = thinq wd l := by
  refine thin_fix (thinq_asc wd l) (fun x hx => ?_) fun x hx => (thin_vals hg x hx).1
  obtain ⟨-, y, hy, h2⟩ := thin_vals hg x hx
  have h3 := h x hx
  rw [← h2] at h3 ⊢
  exact start_idem (hg y hy).1 (by omega)
theorem thinq_len (wd : Int) (l : List Smp) : (thinq wd l).length ≤ l.length := by
  unfold thinq
  rw [List.length_map]
  have := mrgq_len (stl wd l)
  unfold stl at this
  rwa [List.length_map] at this
/-- The value of the last sample up to a tick. -/
def lastq (r : List Smp) (t : Int) : Int := r.foldl (fun v x => if x.tick ≤ t then x.value else v) 0
theorem lastq_snoc (r : List Smp) (x : Smp) (t : Int) : lastq (r ++ [x]) t = if x.tick ≤ t then x.value else lastq r t := by simp [lastq]
theorem lastq_I64 {r : List Smp} (t : Int) (h : ∀ x ∈ r, x.good) : I64 (lastq r t) := by
  have key : ∀ (r : List Smp) (v : Int), I64 v → (∀ x ∈ r, x.good) → I64 (r.foldl (fun v x => if x.tick ≤ t then x.value else v) v) := by
    intro r
    induction r with
    | nil => exact fun v hv _ => hv
    | cons x r ih =>
      intro v hv hg
      refine ih _ ?_ fun y hy => hg y (by simp [hy])
      show I64 (if x.tick ≤ t then x.value else v)
      split
      · exact (hg x (by simp)).2
      · exact hv
  exact key r 0 (by unfold I64; decide) h
def tickq (from_ step : Int) (i : Nat) : Int := satq (from_ + satq (step * i))
def fillq (r : List Smp) (from_ step : Int) (n : Nat) : List Smp := (List.range n).map fun i => ⟨tickq from_ step i, lastq r (tickq from_ step i)⟩
theorem fillq_len (r : List Smp) (from_ step : Int) (n : Nat) : (fillq r from_ step n).length = n := by simp [fillq]
theorem fillq_next (r : List Smp) (from_ step : Int) (n : Nat) : fillq r from_ step (n + 1) = fillq r from_ step n ++ [⟨tickq from_ step n, lastq r (tickq from_ step n)⟩] := by simp [fillq, List.range_succ]
def tkOf (r : List Smp) (i : Nat) : Int := ((r[i]?).map Smp.tick).getD 0
theorem tkOf_at {r : List Smp} {i : Nat} {x : Smp} (h : r[i]? = some x) : tkOf r i = x.tick := by unfold tkOf; rw [h]; rfl
/-- Wide gaps ahead of the sample k + 1. -/
def gapN (r : List Smp) (wd : Int) : Nat → Nat
  | 0 => 0
  | i + 1 => gapN r wd i + if wd < satq (tkOf r (i + 1) - tkOf r i) then 1 else 0
theorem gapN_le (r : List Smp) (wd : Int) (k : Nat) : gapN r wd k ≤ k := by
  induction k with
  | zero => exact Nat.le_refl _
  | succ k ih => rw [gapN]; split <;> omega
end Go.Proofs.Ytkjmacdekfbfhaa
/- blend.Thin: the map of stretches under way. -/
namespace Go.Proofs.Ytkjmacdekfbfhaa
open Go.RowKit
set_option linter.unusedSimpArgs false
set_option linter.unusedVariables false
set_option maxHeartbeats 2000000
set_option maxRecDepth 100000
abbrev nilS : Value := .slice none 0 0
structure ThI (w wr : World) (b : Nat) (fv : Int → Option Value) (ks : List Int) (wd : Int) (l : List Smp) : Prop where
  map : MapIs Try.prog wr tI64 b fv ks
  own : ∀ t v, fv t = some v → OwnS wr (b + 1) v (grp wd l t)
  ne : ∀ t v, fv t = some v → grp wd l t ≠ []
  no : ∀ t, fv t = none → grp wd l t = []
  apart : ∀ t t' v v' k, t ≠ t' → fv t = some v → fv t' = some v' → v.ownBlock = some k → v'.ownBlock ≠ some k
  len : ks.length ≤ l.length
  i64 : ∀ x ∈ ks, I64 x
  bel : Below w.heap.size w wr
  low : w.heap.size ≤ b
section
variable {w wr W W1 W2 : World} {b : Nat} {fv : Int → Option Value} {ks : List Int} {wd : Int} {l : List Smp}
theorem ThI.call (h : ThI w wr b fv ks wd l) (hb : Below wr.heap.size wr W) : ThI w W b fv ks wd l :=
  ⟨h.map.call hb, fun t v hv => (h.own t v hv).call hb, h.ne, h.no, h.apart, h.len, h.i64, h.bel.trans (hb.mono h.bel.size), h.low⟩
theorem ThI.ownV (h : ThI w wr b fv ks wd l) (t : Int) : OwnS wr (b + 1) ((fv t).getD nilS) (grp wd l t) := by
  cases hf : fv t with
  | none => rw [h.no t hf]; exact Own.nil _ _ _ _ _
  | some v => exact h.own t v hf
theorem ThI.mapU (h : ThI w wr b fv ks wd l) (t : Int) (hu : Upd (fun k => ((fv t).getD nilS).ownBlock = some k) wr W1) : MapIs Try.prog W1 tI64 b fv ks :=
  h.map.block (hu.block b h.map.lt (fun hk => by have := (World.ownsRow.lt (h.ownV t) b hk).1; omega))
theorem ThI.put (h : ThI w wr b fv ks wd l) {x : Smp} {v' : Value} {at_ : Int} (hat : startq x.tick wd = at_) (h64 : I64 at_) (hu : Upd (fun k => ((fv at_).getD nilS).ownBlock = some k) wr W1) (ho : OwnS W1 (b + 1) v' (grp wd l at_ ++ [x]))
    (hw : v'.ownBlock = ((fv at_).getD nilS).ownBlock ∨ v'.ownBlock = some wr.heap.size) (hm : MapIs Try.prog W2 tI64 b (fPut fv at_ v') (keyPut ks at_)) (hg : W1.grownBy W2 (some b)) : ThI w W2 b (fPut fv at_ v') (keyPut ks at_) wd (l ++ [x]) := by
  have hg1 : ∀ t, grp wd (l ++ [x]) t = grp wd l t ++ if at_ = t then [x] else [] := fun t => by rw [grp_snoc, hat]
  -- another stretch's block is not the one that was appended to
  have hoth : ∀ t v k, t ≠ at_ → fv t = some v → v.ownBlock = some k → ((fv at_).getD nilS).ownBlock ≠ some k := fun t v k ht hv hk => by
    cases hf : fv at_ with
    | none => intro h0; cases h0
    | some u => exact h.apart t at_ v u k ht hv hf hk
  refine ⟨hm, fun t v hv => ?_, fun t v hv => ?_, fun t hv => ?_, fun t t' v u k ht hv hv' hk => ?_, ?_, fun y hy => ?_, ?_, h.low⟩
  · unfold fPut at hv
    rw [hg1]
    by_cases e : t = at_
    · rw [if_pos e] at hv; cases hv
      subst e
      rw [if_pos rfl]
      exact Own.grown ho hg (fun k hk => by have := (World.ownsRow.lt ho k hk).1; omega)
    · rw [if_neg e] at hv
      rw [if_neg (Ne.symm e), List.append_nil]
      have h1 := h.own t v hv
      exact Own.grown (Own.upd h1 hu (fun k hk => hoth t v k e hv hk)) hg (fun k hk => by have := (World.ownsRow.lt h1 k hk).1; omega)
  · unfold fPut at hv
    rw [hg1]
    by_cases e : t = at_
    · rw [if_pos e.symm]; simp
    · rw [if_neg e] at hv
      rw [if_neg (Ne.symm e), List.append_nil]; exact h.ne t v hv
  · unfold fPut at hv
    rw [hg1]
    by_cases e : t = at_
    · rw [if_pos e] at hv; cases hv
    · rw [if_neg e] at hv
      rw [if_neg (Ne.symm e), List.append_nil]; exact h.no t hv
  · unfold fPut at hv hv'
    by_cases e : t = at_
    · rw [if_pos e] at hv; cases hv
      by_cases e' : t' = at_
      · exact absurd (e.trans e'.symm) ht
      · rw [if_neg e'] at hv'
        intro hk'
        rcases hw with hw | hw
        · exact hoth t' u k e' hv' hk' (hw ▸ hk)
        · rw [hw] at hk; cases hk
          have := (World.ownsRow.lt (h.own t' u hv') _ hk').2; omega
    · rw [if_neg e] at hv
      by_cases e' : t' = at_
      · rw [if_pos e'] at hv'; cases hv'
        intro hk'
        rcases hw with hw | hw
        · exact hoth t v k e hv hk (hw ▸ hk')
        · rw [hw] at hk'; cases hk'
          have := (World.ownsRow.lt (h.own t v hv) _ hk).2; omega
      · rw [if_neg e'] at hv'
        exact h.apart t t' v u k ht hv hv' hk
  · have := keyPut_len ks at_; have := h.len; simp; omega
  · unfold keyPut at hy
    split at hy
    · exact h.i64 y hy
    · rcases List.mem_append.1 hy with hy | hy
      · exact h.i64 y hy
      · simp at hy; rw [hy]; exact h64
  · have h1 := h.bel.trans (hu.below (B := w.heap.size) (fun k hk => by have := (World.ownsRow.lt (h.ownV at_) k hk).1; have := h.low; omega) h.bel.size)
    exact h1.trans (Only.below hg h.low h1.size)
end
theorem ThI.start (w : World) (wd : Int) : ThI w (w.alloc (.map #[] 0)) w.heap.size (fun _ => none) [] wd [] :=
  ⟨MapIs.made Try.prog w tI64, fun t v h => (by cases h), fun t v h => (by cases h), fun t _ => rfl, fun t t' v v' k _ h => (by cases h), Nat.le_refl _, fun x hx => (by simp at hx), (Below.refl _ _).alloc (Nat.le_refl _) _, Nat.le_refl _⟩
end Go.Proofs.Ytkjmacdekfbfhaa
/- blend.Thin: the walk. -/
namespace Go.Proofs.Ytkjmacdekfbfhaa
open Go.RowKit
set_option linter.unusedSimpArgs false
set_option linter.unusedVariables false
set_option maxHeartbeats 8000000
set_option maxRecDepth 100000
theorem zero_smps (w : World) : (zeroValue 48).run Try.prog w = .ok (.slice none 0 0) w := by kernel_rfl
theorem blend_Thin (A : Option Addr) (len cap : Nat) (l : List Smp) (wd : Int) (w : World) (hs : SmpsAre w A len cap l) (hg : ∀ x ∈ l, x.good) (hn : len ≤ 200) (hw : I64 wd) :
    Calls Try.prog 35 #[.slice A len cap, .int .i64 wd] w (PutP w (thinq wd l)) := by
  have HS := Lib.hid hs
  have HL := Lib.hid hs.1
  have HG := Lib.hid hg
  have T0 := Lib.hid (ThI.start w wd)
  have hmm := @run_makeMap Try.prog
  clear hs hg
  go_enter Try.func35, Try.ntmps35
  go_wp2
  go_loopw [15] (fun i wr => ∃ (k : Nat) (fv : Int → Option Value) (ks : List Int), k ≤ len ∧ i = .int .i64 k ∧ ThI w wr w.heap.size fv ks wd (l.take k)) (fun i _ => len - (intOf i).toNat)
  case atStart => exact ⟨0, _, [], Nat.zero_le _, rfl, T0.out⟩
  case round =>
    obtain ⟨k, fv, ks, hk, rfl, hin⟩ := hrel
    have HI := Lib.hid hin
    by_cases hlt : k < len
    · obtain ⟨bb, off, x, rfl, hx, hb, c0, c1⟩ := SmpsAre.at_ (slice_keep HS.out hin.bel) hlt
      have hki : (k : Int) < (len : Int) := by omega
      have HXg := Lib.hid (HG.out x (List.mem_of_getElem? hx))
      have HNn := Lib.hid (take_nx hx)
      have BX := Lib.hid (Blk.new wr 65 #[.int .i64 x.tick, .int .i64 x.value])
      have J := Lib.hid (hin.call (W := wr.alloc (.cells #[.int .i64 x.tick, .int .i64 x.value] 65)) ((Below.refl _ _).alloc (Nat.le_refl _) _))
      have hbw := hin.map.lt
      have HTl := Lib.hid (show (l.take k).length ≤ 200 from by rw [List.length_take]; have := HL.out; omega)
      clear hx hb hin
      obtain ⟨xt, xv⟩ := x
      dsimp only at c0 c1 BX J
      obtain ⟨at_, hat⟩ : ∃ at_, startq xt wd = at_ := ⟨_, rfl⟩
      have H64 := Lib.hid (show I64 at_ from by rw [← hat]; exact startq_I64 HXg.out.1)
      have HSt := Lib.hid (fun W => blend_Start xt wd W HXg.out.1 hw)
      rw [hat] at HSt
      have HAt := Lib.hid hat
      clear hat
      have hown := J.out.ownV at_
      have hmapU := J.out.mapU (W1 := wr) at_
      obtain ⟨V, hV⟩ : ∃ V, (fv at_).getD nilS = V := ⟨_, rfl⟩
      have HPut := Lib.hid (fun (v' : Value) (W1 W2 : World) => J.out.call (W := (wr.alloc (.cells #[.int .i64 xt, .int .i64 xv] 65)).alloc (.cells #[.int .i64 xt, .int .i64 xv] 65)) ((Below.refl _ _).alloc (Nat.le_refl _) _) |>.put (x := ⟨xt, xv⟩) (v' := v') (W1 := W1) (W2 := W2) HAt.out H64.out)
      have HMU := Lib.hid (fun (W1 : World) => J.out.call (W := (wr.alloc (.cells #[.int .i64 xt, .int .i64 xv] 65)).alloc (.cells #[.int .i64 xt, .int .i64 xv] 65)) ((Below.refl _ _).alloc (Nat.le_refl _) _) |>.mapU (W1 := W1) at_)
      rw [hV] at hown HPut HMU
      clear hmapU
      have HVv := Lib.hid hV
      clear hV
      obtain ⟨A3, n3, c3, rfl, -, -⟩ := ownS_isB hown
      have HOw := Lib.hid hown
      have hGl := grp_len wd (l.take k) at_
      have HGl := Lib.hid hGl
      clear hown hGl
      generalize grp wd (l.take k) at_ = GL at *
      go_wp2_with (first
        | (go_at_call 36; refine (HSt.out _).mono ?_; rintro e w1 ⟨rfl, rfl⟩)
        | (at_lookup; refine wpList_map_look _ rfl _ _ 115 rfl 2 48 Try.underlying2 Try.underlying115 nilS (zero_smps _) w.heap.size _ _ rfl J.out.map at_ rfl H64.out ?_; rw [HVv.out])
        | (at_builtin; refine wpList_push2 _ rfl (.tmp 27) (.tmp 29) 48 rfl (w.heap.size + 1) 65 _ 2 16 Smp.cells Try.underlying48 info_smp (by rfl) (by decide) (fun _ => rfl) smp_one (.slice A3 n3 c3) GL rfl (HOw.out.alloc _) ⟨wr.heap.size + 1, 0, none⟩ 1 ⟨xt, xv⟩ rfl (blk_news (α := Smp) (vs := [Value.int .i64 xt, Value.int .i64 xv]) (Blk.new2 wr _ _ _) rfl) (by have := HGl.out; have := HTl.out; omega) (by decide) (by simp; omega) ?_; intro v' w3 ho3 hu3 hw3; have O3 := Lib.hid ho3; have U3 := Lib.hid hu3; have Z3 := Lib.hid hw3; have M3 := Lib.hid (HMU.out w3 hu3); clear ho3 hu3 hw3)
        | (at_mapUpdate; refine wpList_map_put _ rfl _ _ _ 115 rfl 2 48 Try.underlying2 Try.underlying115 w.heap.size _ _ rfl M3.out (by have := HI.out.len; have := HTl.out; unfold maxLen; omega) at_ rfl H64.out v' rfl ?_; intro w5 hm5 hg5; have P5 := Lib.hid (HPut.out v' w3 w5 U3.out O3.out Z3.out hm5 hg5); clear hm5 hg5))
      go_roundw
      case rel => exact ⟨k + 1, _, _, by omega, by go_num, by rw [HNn.out]; exact P5.out⟩
      case measure => simp [intOf]; omega
    · have hE : l.take k = l := List.take_of_length_le (by have := HL.out; omega)
      rw [hE] at HI
      have hki : (len : Int) ≤ (k : Int) := by omega
      obtain ⟨wA, rfl⟩ : ∃ wA : World, wA = wr := ⟨_, rfl⟩
      have J := Lib.hid (HI.out.call (W := wA.alloc (.map #[] 0)) ((Below.refl _ _).alloc (Nat.le_refl _) _))
      have M2 := Lib.hid (MapIs.made Try.prog wA tI64)
      have hbw := HI.out.map.lt
      have hlen := HI.out.len
      have hll := HL.out
      have H64 := Lib.hid HI.out.i64
      clear hE hin
      go_wp2_with (at_range; refine wpList_map_range _ rfl _ 115 rfl 2 48 Try.underlying2 Try.underlying115 w.heap.size _ _ rfl J.out.map H64.out ?_; intro w1 hrg hgr hsz; simp only [World.size_alloc] at hrg; have Rg := Lib.hid hrg; have M1 := Lib.hid (M2.out.grown hgr (by simp)); have E1 := Lib.hid (((Below.refl wA.heap.size wA).alloc (Nat.le_refl _) (.map #[] 0)).grown hgr (by simp) (fun k hk => by cases hk)); clear hrg hgr)
      go_frame
      (try simp only [World.size_alloc])
      go_loopw [10] (fun ot wr2 => ∃ (lf : Int → Bool) (cnt : Nat) (f2 : Int → Option Int) (ks2 : List Int), MapRng Try.prog wr2 2 w.heap.size (wA.heap.size + 1) fv ks lf cnt ∧ MapIs Try.prog wr2 tI64 wA.heap.size (tabI f2) ks2 ∧ (∀ t, f2 t = if t ∈ ks ∧ lf t = false then some (meanq (valq (grp wd l t))) else none) ∧ ks2.length + cnt ≤ ks.length ∧ (∀ x ∈ ks2, I64 x) ∧ Below wA.heap.size wA wr2) (fun _ wr2 => wr2.rangeLeft w.heap.size (wA.heap.size + 1))
      case atStart => exact ⟨_, _, fun _ => none, [], Rg.out, M1.out.mono_f (by funext x; rfl) rfl, (fun t => by simp), by simp, by simp, E1.out⟩
      case round =>
        obtain ⟨lf, cnt, f2, ks2, hrg2, hm2, hf2, hc2, h642, hbe2⟩ := hrel
        have HRg := Lib.hid hrg2
        have HM2 := Lib.hid hm2
        have HF2 := Lib.hid hf2
        have HC2 := Lib.hid hc2
        have H642 := Lib.hid h642
        have HBe := Lib.hid hbe2
        clear hrg2 hm2 hf2 hc2 h642 hbe2
        go_wp2_with (at_next; refine wpList_map_next _ rfl _ rfl 2 Try.underlying2 w.heap.size (wA.heap.size + 1) _ _ lf cnt rfl HRg.out ?_ ?_)
        · intro hdone
          have hfm : f2 = meanF wd l := by
            funext t
            rw [HF2.out t]
            obtain ⟨D, -, hv⟩ := HI.out.map
            unfold meanF
            by_cases hm : t ∈ ks
            · rw [if_pos ⟨hm, hdone t hm⟩, if_pos]
              obtain ⟨v, hv2⟩ := Option.isSome_iff_exists.1 ((hv.2.2.1 t).1 hm)
              exact (stl_has wd l t).2 (HI.out.ne t v hv2)
            · rw [if_neg (fun h => hm h.1), if_neg]
              intro h
              refine (stl_has wd l t).1 h (HI.out.no t ?_)
              cases hf : fv t with
              | none => rfl
              | some v => exact absurd ((hv.2.2.1 t).2 (by rw [hf]; rfl)) hm
          subst hfm
          have HSo := Lib.hid (blend_sorted wA.heap.size _ ks2 wr HM2.out (by have := HC2.out; omega) H642.out)
          have HQ := Lib.hid (mapS_thin HM2.out)
          have BB := Lib.hid (HI.out.bel.trans (HBe.out.mono HI.out.bel.size))
          clear hdone
          go_wp2_with (go_at_call 77; refine HSo.out.mono ?_; rintro e w5 ⟨v, rfl, ho5, hb5⟩; obtain ⟨A5, n5, c5, rfl, -, -⟩ := ho5.shape (fun _ => rfl); have O5 := Lib.hid ho5; have B5 := Lib.hid (BB.out.trans (hb5.mono BB.out.size)); clear ho5 hb5)
          go_ret
          exact ⟨_, _, _, rfl, by rw [← HQ.out]; exact O5.out.mono BB.out.size, B5.out⟩
        · intro x v w4 cnt4 hx64 hxm hlx hfx hrg4 hlt4 hgr4 hsz4 hen
          have HBe4 := Lib.hid (HBe.out.grown hgr4 HBe.out.size (fun k hk => by cases hk; omega))
          have HM4 := Lib.hid (HM2.out.grown hgr4 (by intro h; injection h; omega))
          have HR4 := Lib.hid hrg4
          have HLt := Lib.hid hlt4
          have HX64 := Lib.hid hx64
          have hov := HI.out.own x v hfx
          have hne := HI.out.ne x v hfx
          have HGg := Lib.hid (grp_good (wd := wd) HG.out x)
          have HF := Lib.hid (show ∀ t, (if t = x then some (meanq (valq (grp wd l x))) else f2 t) = if t ∈ ks ∧ (lf t && decide (t ≠ x)) = false then some (meanq (valq (grp wd l t))) else none from fun t => by
            by_cases e : t = x
            · subst e
              rw [if_pos rfl, if_pos ⟨hxm, by simp⟩]
            · rw [if_neg e, HF2.out t]
              simp [e])
          have hgl := grp_len wd l x
          obtain ⟨A4, n4, c4, rfl, hn4, hs4⟩ := ownS_isB hov
          have HS4 := Lib.hid (slice_keep hs4 HBe4.out)
          have HWo := Lib.hid (fun W hW => window_Of A4 n4 c4 (grp wd l x) W hW HGg.out (by omega))
          obtain ⟨M, hM⟩ : ∃ M, M = meanq (valq (grp wd l x)) := ⟨_, rfl⟩
          have hst : statq (grp wd l x) = ⟨n4, sumq (valq (grp wd l x)), minq (valq (grp wd l x)), maxq (valq (grp wd l x)), M⟩ := by
            unfold statq
            rw [if_neg (fun h => hne (List.eq_nil_of_length_eq_zero h)), hM, hn4]
          rw [hst] at HWo
          rw [← hM] at HF
          generalize sumq (valq (grp wd l x)) = q1 at *
          generalize minq (valq (grp wd l x)) = q2 at *
          generalize maxq (valq (grp wd l x)) = q3 at *
          unfold Stat.row at HWo
          dsimp only at HWo
          have HT := Lib.hid (show fPut (tabI f2) x (.int .i64 M) = tabI (fun t => if t = x then some M else f2 t) from by
            funext t; unfold fPut tabI; by_cases e : t = x <;> simp [e])
          have HK2 := Lib.hid (show (keyPut ks2 x).length + cnt4 ≤ ks.length from by have := keyPut_len ks2 x; have := HC2.out; omega)
          have HK64 := Lib.hid (show ∀ y ∈ keyPut ks2 x, I64 y from fun y hy => by
            unfold keyPut at hy
            split at hy
            · exact H642.out y hy
            · rcases List.mem_append.1 hy with hy | hy
              · exact H642.out y hy
              · simp at hy; rw [hy]; exact hx64)
          have hfd : ∀ W : World, (Instr.field 117 (.agg #[.int .i64 (n4 : Int), .int .i64 q1, .int .i64 q2, .int .i64 q3, .int .i64 M]) 4).run Try.prog W = .ok (.int .i64 M) W := fun _ => by kernel_rfl
          clear hx64 hxm hlx hfx hrg4 hlt4 hgr4 hov hne hgl hs4 hst hM hn4
          go_wp2_with (first
            | (go_at_call 79; refine (HWo.out _ HS4.out).mono ?_; rintro e w5 ⟨rfl, hb5⟩; have M5 := Lib.hid (HM4.out.call hb5); have R5 := Lib.hid (HR4.out.kept (row := none) ⟨hb5.os, hb5.tape, hb5.output, hb5.size, fun k hk _ => hb5.block k hk⟩ (by simp) (by simp)); have E5 := Lib.hid (HBe4.out.trans (hb5.mono HBe4.out.size)); clear hb5)
            | (at_mapUpdate; refine wpList_map_put _ rfl _ _ _ 112 rfl 2 2 Try.underlying2 Try.underlying112 wA.heap.size _ _ rfl M5.out (by have := HC2.out; unfold maxLen; omega) x rfl HX64.out (.int .i64 M) rfl ?_; intro w6 hm6 hg6; have M6 := Lib.hid (hm6.mono_f HT.out rfl); have R6 := Lib.hid (R5.out.kept hg6 (by intro h; injection h; omega) (by intro h; injection h; omega)); have E6 := Lib.hid (E5.out.grown hg6 E5.out.size (fun k hk => by cases hk; exact Nat.le_refl _)); clear hm6 hg6))
          go_frame
          go_roundw
          case rel => exact ⟨_, cnt4, _, _, R6.out, M6.out, (fun t => by have h9 := HF.out t; simp only [ne_eq, decide_not] at h9; exact h9), HK2.out, HK64.out, E6.out⟩
          case measure => rw [R6.out.left_eq, HRg.out.left_eq]; exact HLt.out
end Go.Proofs.Ytkjmacdekfbfhaa
/- The reference's mean by halving. -/
namespace Go.Proofs.Ytkjmacdekfbfhaa
open Go.RowKit
set_option linter.unusedSimpArgs false
set_option linter.unusedVariables false
set_option maxHeartbeats 4000000
set_option maxRecDepth 100000
theorem cmpN_ge (X Y : Nat) : decide (0 ≤ cmpN X Y) = decide (Y ≤ X) := by
  unfold cmpN
  rw [Bool.eq_iff_iff]
  simp only [decide_eq_true_eq]
  split <;> (try split) <;> omega
theorem ref16_atLeastN (A : Option Addr) (len cap : Nat) (l : List Int) (M : Nat) (w : World) (hs : IntsAre w A len cap l) (hg : ∀ x ∈ l, I64 x) (hn : len ≤ 1000) (hM : M ≤ 9223372036854775807) :
    Calls Try.prog 123 #[.slice A len cap, .int .i64 (M : Int)] w fun e w' => e = .returned (.bool (decide (totq l ≤ M * len))) ∧ Below w.heap.size w w' := by
  have HS := Lib.hid hs
  have HG := Lib.hid hg
  have hl := hs.1
  have hT : totq l < 2 ^ 128 := by
    have h1 := totq_lt l hg
    have h2 := Nat.mul_le_mul_right 9223372036854775807 (show l.length ≤ 1000 by omega)
    omega
  have HT := Lib.hid hT
  clear hs hg hT
  by_cases h0 : len = 0
  · have HQ := Lib.hid (show decide (totq l ≤ M * len) = true by
      have : l = [] := List.eq_nil_of_length_eq_zero (by omega)
      subst this
      simp [totq])
    have d0 : ((len : Int) == 0) = true := by simp; omega
    clear h0 hl
    go_enter Try.func123, Try.ntmps123
    go_wp2
    go_ret
    exact ⟨by rw [HQ.out]; rfl, Below.refl _ _⟩
  · have d0 : ((len : Int) == 0) = false := by simp; omega
    obtain ⟨P, hP⟩ : ∃ P, P = M * len := ⟨_, rfl⟩
    have hPl : P < 2 ^ 128 := by rw [hP]; exact mul_lt128q (by omega) (by omega)
    have HPl := Lib.hid hPl
    have HM := Lib.hid (fun W => num_MulM M len P W hP (by omega) (by omega))
    rw [← hP]
    have HTot := Lib.hid (fun W hW => num_Total A len cap l W hW HG.out (by omega))
    have hM2 : (M : Int) ≤ 9223372036854775807 := by omega
    generalize totq l = T at *
    have HC := Lib.hid (fun W => num_Cmp P T W HPl.out HT.out)
    have HR := Lib.hid (cmpN_ge P T)
    generalize cmpN P T = C at *
    clear h0 hl hP hPl
    go_enter Try.func123, Try.ntmps123
    go_wp2_with (first | (go_at_call 154; refine (HM.out _).mono ?_; rintro e v1 ⟨rfl, hb1⟩) | (refine wpList_store_fresh rfl 201 _ _ rfl _ _ _ (bitsA _) rfl rfl rfl (by rw [bitsA_size]; kernel_rfl) (info_num _) (bitsA_one _) ?_))
    have BP := Lib.hid (Blk.new v1 201 (bitsA P))
    have E1 := Lib.hid (hb1.alloc hb1.size (.cells (bitsA P) 201))
    clear hb1
    generalize v1.heap.size = g at *
    generalize v1.alloc (.cells (bitsA P) 201) = v2 at *
    refine wp_region_any (by kernel_rfl) ?_; change wpAny _ _ _ _ _ _ _ (World.drew v2); refine any_of_anyG (late := fun _ => false) (S := fun wS => Below v2.heap.size v2 wS) _ _ _ _ ?_
    have S0 := (Below.refl v2.heap.size v2).drew
    refine anyG_takes (is := [0, 1]) (vs := [_, _]) (m := 4) (listed2 := #[true, true, false, false, false, false]) (a2 := ⟨#[_, _, _, _, _, _, _, _, _, _, _, _, _, _, _, _, _, _, _, _], _⟩) (by kernel_rfl) (fun j hj => by simp at hj) (by kernel_rfl) (fun _ _ _ _ _ h => h) (Ys.cons rfl (Or.inl ⟨by rfl, fun W1 hW1 => exec_load (ty := 201) (x := .tmp 5) rfl rfl (run_loadAt_blk _ _ _ _ _ _ (BP.out.call hW1) Try.underlying201 rfl (by first | exact info_num _ | kernel_rfl))⟩) (Ys.cons rfl (Or.inl ⟨by rfl, fun W1 hW1 => by first | rfl | (go_simp; done) | (go_simp; with_reducible rfl)⟩) (Ys.nil))) (S0) (by rfl) (by rfl) ?_
    refine anyG_one (k := 2) (by kernel_rfl) rfl (by rfl) (fun Q2 hQ2 => ?_); go_wp2_with (go_at_call 156; refine (HTot.out _ (slice_keep HS.out (E1.out.trans (S0.mono E1.out.size)))).mono ?_; rintro e v3 ⟨rfl, hb3⟩); refine hQ2 _ _ (fun _ => S0.trans (hb3.mono S0.size)) ?_; clear hQ2 Q2
    have S3 := S0.trans (hb3.mono S0.size)
    refine anyG_one (k := 3) (by kernel_rfl) rfl (by rfl) (fun Q2 hQ2 => ?_); go_wp2_with (go_at_call 155; refine (HC.out _).mono ?_; rintro e v4 ⟨rfl, hb4⟩); refine hQ2 _ _ (fun _ => S3.trans (hb4.mono S3.size)) ?_; clear hQ2 Q2
    have S4 := S3.trans (hb4.mono S3.size)
    refine anyG_one (k := 4) (by kernel_rfl) rfl (by rfl) (fun Q2 hQ2 => ?_); go_wp2_with fail; refine hQ2 _ _ (fun _ => S4) ?_; clear hQ2 Q2
    refine anyG_takes (is := [5]) (vs := [_]) (m := 0) (listed2 := #[true, true, true, true, true, true]) (a2 := ⟨#[_, _, _, _, _, _, _, _, _, _, _, _, _, _, _, _, _, _, _, _], _⟩) (by kernel_rfl) (fun j hj => by simp at hj) (by kernel_rfl) (fun _ _ _ _ _ h => h) (Ys.cons rfl (Or.inl ⟨by rfl, fun W1 hW1 => by first | rfl | (go_simp; done) | (go_simp; with_reducible rfl)⟩) (Ys.nil)) (S4) (by rfl) (by rfl) ?_
    refine anyG_done (by kernel_rfl) ?_ _
    go_wp2
    go_ret
    exact ⟨ret_bool HR.out, E1.out.trans (S4.mono E1.out.size)⟩
theorem mean_least {l : List Int} (hg : ∀ x ∈ l, I64 x) (h0 : ∀ x ∈ l, 0 ≤ x) (M : Nat) : decide (totq l ≤ M * l.length) = decide (meanq l ≤ (M : Int)) ∧ 0 ≤ meanq l ∧ meanq l ≤ 9223372036854775807 := by
  by_cases hl : l.length = 0
  · have e : l = [] := List.eq_nil_of_length_eq_zero hl
    subst e
    simp [totq, meanq]
  · obtain ⟨h1, h2⟩ := mean_plain hg (by omega)
    have h3 := (upq_spec (n := totq l) (d := l.length) (q := upq (totq l) l.length) (by omega)).2 rfl
    rw [h1]
    refine ⟨?_, by omega, by omega⟩
    rw [Bool.eq_iff_iff]
    simp only [decide_eq_true_eq]
    constructor
    · intro h
      have := upq_le (by omega) h
      omega
    · intro h
      have := Nat.mul_le_mul_right l.length (show upq (totq l) l.length ≤ M by omega)
      omega
theorem ref16_atLeast (A : Option Addr) (len cap : Nat) (l : List Int) (m : Int) (w : World) (hs : IntsAre w A len cap l) (hg : ∀ x ∈ l, I64 x) (hg0 : ∀ x ∈ l, 0 ≤ x) (hn : len ≤ 1000) (h0 : 0 ≤ m) (h1 : m ≤ 9223372036854775807) :
    Calls Try.prog 123 #[.slice A len cap, .int .i64 m] w fun e w' => e = .returned (.bool (decide (meanq l ≤ m))) ∧ Below w.heap.size w w' := by
  obtain ⟨M, rfl⟩ := Int.eq_ofNat_of_zero_le h0
  have := ref16_atLeastN A len cap l M w hs hg hn (by omega)
  rw [← hs.1, (mean_least hg hg0 M).1] at this
  rw [← hs.1]
  exact this
theorem ref16_Mean (A : Option Addr) (len cap : Nat) (l : List Smp) (w : World) (hs : SmpsAre w A len cap l) (hg : ∀ x ∈ l, x.good) (hn : len ≤ 200) :
    Calls Try.prog 81 #[.slice A len cap] w fun e w' => e = .returned (.int .i64 (meanq (valq l))) ∧ Below w.heap.size w w' := by
  have HS := Lib.hid hs
  have HL := Lib.hid hs.1
  have HG := Lib.hid (fun x hx => (show I64 x by have := valq_bd hg x hx; unfold I64; omega) : ∀ x ∈ valq l, I64 x)
  have HG0 := Lib.hid (fun x hx => (valq_bd hg x hx).1 : ∀ x ∈ valq l, 0 ≤ x)
  obtain ⟨-, m0, m1⟩ := mean_least HG.out HG0.out 0
  clear hs hg
  go_enter Try.func81, Try.ntmps81
  go_wp2_with fail
  refine (ref09_Values A len cap l _ HS.out (by omega)).mono ?_
  rintro e w1 ⟨v, rfl, ho, hb1⟩
  obtain ⟨A', n', c', rfl, hn', hsl⟩ := ho.shape (fun _ => rfl)
  have hn2 : n' ≤ 200 := by rw [hn', valq_len]; have := HL.out; omega
  have SL := Lib.hid hsl
  have HB := Lib.hid hb1
  clear hn' ho hsl hb1
  have HAt := Lib.hid (fun W m hW h0 h1 => ref16_atLeast A' n' c' (valq l) m W hW HG.out HG0.out (by omega) h0 h1)
  generalize hMN : meanq (valq l) = MN at *
  have HMN := Lib.hid hMN
  clear hMN
  go_wp2
  go_loopw [4, 5] (fun lo hi wr => ∃ a b : Int, lo = .int .i64 a ∧ hi = .int .i64 b ∧ 0 ≤ a ∧ a ≤ MN ∧ MN ≤ b ∧ b ≤ 9223372036854775807 ∧ Below w1.heap.size w1 wr) (fun lo hi _ => (intOf hi - intOf lo).toNat)
  case atStart => exact ⟨0, 9223372036854775807, rfl, rfl, by omega, m0, m1, by omega, Below.refl _ _⟩
  case round =>
    obtain ⟨a, b, rfl, rfl, ha, h1, h2, h3, hbel⟩ := hrel
    by_cases hlt : a < b
    · have q1 : a ≤ a + (b - a) / 2 ∧ a + (b - a) / 2 < b := by omega
      obtain ⟨q2, q3⟩ := q1
      have HBl := Lib.hid hbel
      go_wp2_with fail
      refine (HAt.out _ _ (slice_keep SL.out HBl.out) (by omega) (by omega)).mono ?_
      rintro e w2 ⟨rfl, hb2⟩
      have E2 := Lib.hid (HBl.out.trans (hb2.mono HBl.out.size))
      clear hb2 hbel
      by_cases c : MN ≤ a + (b - a) / 2
      · go_wp2
        go_roundw
        case rel => exact ⟨_, _, rfl, rfl, ha, h1, c, by omega, E2.out⟩
        case measure => simp [intOf]; omega
      · go_wp2
        go_roundw
        case rel => exact ⟨_, _, rfl, rfl, by omega, by omega, h2, by omega, E2.out⟩
        case measure => simp [intOf]; omega
    · go_wp2
      go_ret
      exact ⟨ret_int (by rw [HMN.out]; omega), HB.out.trans (hbel.mono HB.out.size)⟩
end Go.Proofs.Ytkjmacdekfbfhaa
