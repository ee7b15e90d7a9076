/- blend.Merge. (fast region, no defers) -/
import Derived.Test.YtkjmacdekfbfhaaBSort
import Derived.Test.YtkjmacdekfbfhaaBlendP
import Derived.Test.YtkjmacdekfbfhaaRegT
namespace Go.Proofs.Ytkjmacdekfbfhaa
open Go.RowKit
set_option linter.unusedSimpArgs false
set_option linter.unusedVariables false
set_option maxHeartbeats 4000000
set_option maxRecDepth 100000
structure SRow where
  A : Option Addr
  n : Nat
  c : Nat
  l : List Smp
def SRow.hdr (r : SRow) : List Value := [.slice r.A r.n r.c]
/-- A slice of slices of samples. -/
def PartsS (w : World) (A : Option Addr) (len cap : Nat) (rows : List SRow) : Prop := SliceIs w 1 SRow.hdr A len cap rows ∧ ∀ r ∈ rows, SmpsAre w r.A r.n r.c r.l
theorem PartsS.keep {w w' : World} {A : Option Addr} {len cap : Nat} {rows : List SRow} (h : PartsS w A len cap rows) (hb : Below w.heap.size w w') : PartsS w' A len cap rows := ⟨slice_keep h.1 hb, fun r hr => slice_keep (h.2 r hr) hb⟩
theorem PartsS.at_ {w : World} {A : Option Addr} {len cap : Nat} {rows : List SRow} (h : PartsS w A len cap rows) {k : Nat} (hk : k < len) :
    ∃ (b off : Nat) (r : SRow), A = some ⟨b, off, none⟩ ∧ rows[k]? = some r ∧ b < w.heap.size ∧ w.cell? ⟨b, off + k, none⟩ = some (.slice r.A r.n r.c) ∧ SmpsAre w r.A r.n r.c r.l := by
  obtain ⟨b, off, r, h1, h2, h3, h4⟩ := SliceIs.at_ h.1 hk
  exact ⟨b, off, r, h1, h2, h3, by have := h4 0 _ rfl; simpa using this, h.2 r (List.mem_of_getElem? h2)⟩
def allS (rows : List SRow) : List Smp := rows.flatMap (·.l)
theorem allS_next {rows : List SRow} {k : Nat} {r : SRow} (h : rows[k]? = some r) : allS (rows.take (k + 1)) = allS (rows.take k) ++ r.l := by
  unfold allS; rw [take_nx h, List.flatMap_append]; simp
/-- What a map of sums holds behind the samples l. -/
def sumF (l : List Smp) : Int → Option Int := fun t => if hasT l t = true then some (min mxI (sumT l t)) else none
theorem sumF_get (l : List Smp) (t : Int) : (sumF l t).getD 0 = min mxI (sumT l t) := by
  unfold sumF
  split
  · rfl
  · rename_i h
    rw [sumT_none (by simpa using h)]; rfl
theorem tabI_get (f : Int → Option Int) (t : Int) : (tabI f t).getD (.int .i64 0) = .int .i64 ((f t).getD 0) := by unfold tabI; cases f t <;> rfl
theorem sumF_put (l : List Smp) (x : Smp) (h : x.value ≤ mxI) : fPut (tabI (sumF l)) x.tick (.int .i64 (satq ((sumF l x.tick).getD 0 + max x.value 0))) = tabI (sumF (l ++ [x])) := by
  funext t
  unfold fPut tabI
  have h1 : hasT (l ++ [x]) t = (hasT l t || decide (x.tick = t)) := by rw [hasT_append]; simp [hasT]
  have h2 : sumT (l ++ [x]) t = sumT l t + if x.tick = t then max x.value 0 else 0 := by rw [sumT_append]; simp [sumT]
  by_cases e : t = x.tick
  · subst e
    rw [if_pos rfl]
    unfold sumF
    rw [h1, h2]
    simp only [decide_true, Bool.or_true, if_true, Option.map_some]
    have s0 := sumT_nonneg l x.tick
    congr 2
    have hg := sumF_get l x.tick
    unfold sumF at hg
    rw [hg]
    unfold satq mxI at *
    omega
  · rw [if_neg e]
    unfold sumF
    have h3 : ¬ x.tick = t := Ne.symm e
    rw [h1, h2]
    simp [h3]
theorem keyPut_len (ks : List Int) (x : Int) : (keyPut ks x).length ≤ ks.length + 1 := by unfold keyPut; split <;> simp
/-- The map of sums under way. -/
structure MgI (w wr : World) (b : Nat) (ks : List Int) (l : List Smp) : Prop where
  map : MapIs Try.prog wr tI64 b (tabI (sumF l)) ks
  len : ks.length ≤ l.length
  i64 : ∀ x ∈ ks, I64 x
  bel : Below w.heap.size w wr
  low : w.heap.size ≤ b
theorem MgI.call {w wr W : World} {b : Nat} {ks : List Int} {l : List Smp} (h : MgI w wr b ks l) (hb : Below wr.heap.size wr W) : MgI w W b ks l :=
  ⟨h.map.call hb, h.len, h.i64, h.bel.trans (hb.mono h.bel.size), h.low⟩
theorem MgI.put {w wr W : World} {b : Nat} {ks : List Int} {l : List Smp} {x : Smp} (h : MgI w wr b ks l) (hx : x.good) (hm : MapIs Try.prog W tI64 b (fPut (tabI (sumF l)) x.tick (.int .i64 (satq ((sumF l x.tick).getD 0 + max x.value 0)))) (keyPut ks x.tick)) (hg : wr.grownBy W (some b)) : MgI w W b (keyPut ks x.tick) (l ++ [x]) := by
  refine ⟨hm.mono_f (sumF_put l x (by have := hx.2; unfold I64 at this; unfold mxI; omega)) rfl, ?_, fun y hy => ?_, h.bel.trans (Only.below hg h.low h.bel.size), h.low⟩
  · have := keyPut_len ks x.tick; have := h.len; simp; omega
  · unfold keyPut at hy
    split at hy
    · exact h.i64 y hy
    · rcases List.mem_append.1 hy with hy | hy
      · exact h.i64 y hy
      · simp at hy; rw [hy]; exact hx.1
/-- The map's keys in order are what the samples come to. -/
theorem mapS_mrg {w : World} {b : Nat} {ks : List Int} {l : List Smp} (h : MapIs Try.prog w tI64 b (tabI (sumF l)) ks) (hg : ∀ x ∈ l, x.good) : mapS (sumF l) ks = mrgq l := by
  obtain ⟨D, -, hv⟩ := h
  have hk : ∀ t, t ∈ ks ↔ hasT l t = true := fun t => by
    rw [hv.2.2.1 t]
    unfold tabI sumF
    by_cases e : hasT l t = true <;> simp [e]
  refine IsM.uniq (IsM.ofMap (List.mergeSort_perm ks _) hv.2.1 ?_ hk fun t ht => ?_) (mrgq_is l fun x hx => by have := (hg x hx).2; unfold I64 at this; unfold mxI; omega)
  · have := List.pairwise_mergeSort (le := fun x y : Int => decide (x ≤ y)) (fun a b c h1 h2 => by simp at *; omega) (fun a b => by simp; omega) ks
    exact this.imp (by simp)
  · rw [sumF_get]
theorem sat_AddB (a b : Int) (w : World) (ha : I64 a) (hb : I64 b) : Calls Try.prog 76 #[.int .i64 a, .int .i64 b] w fun e w' => e = .returned (.int .i64 (satq (a + b))) ∧ Below w.heap.size w w' :=
  (sat_Add a b w ha hb).mono fun e w' h => ⟨h.1, by rw [← h.2]; exact Below.refl _ _⟩
theorem blend_Merge (A : Option Addr) (len cap : Nat) (rows : List SRow) (w : World) (hr : PartsS w A len cap rows) (hg : ∀ r ∈ rows, ∀ x ∈ r.l, x.good) (hn : (allS rows).length ≤ 800) (hl : len ≤ 100) :
    Calls Try.prog 32 #[.slice A len cap] w fun e w' => ∃ v, e = .returned v ∧ OwnS w' w.heap.size v (mrgq (allS rows)) ∧ Below w.heap.size w w' := by
  have HR := Lib.hid hr
  have HLl := Lib.hid hr.1.1
  have HG := Lib.hid hg
  have HN := Lib.hid hn
  have M0 := Lib.hid (show MgI w (w.alloc (.map #[] 0)) w.heap.size [] [] from ⟨(MapIs.made Try.prog w tI64).mono_f (by funext x; rfl) rfl, Nat.le_refl _, fun x hx => by simp at hx, (Below.refl _ _).alloc (Nat.le_refl _) _, Nat.le_refl _⟩)
  have hmm := @run_makeMap Try.prog
  clear hr hg hn
  go_enter Try.func32, Try.ntmps32
  go_wp2
  clear hmm
  go_loopw [11] (fun i wr => ∃ (k : Nat) (ks : List Int), k ≤ len ∧ i = .int .i64 k ∧ MgI w wr w.heap.size ks (allS (rows.take k))) (fun i _ => len - (intOf i).toNat)
  case atStart => exact ⟨0, [], Nat.zero_le _, rfl, M0.out⟩
  case round =>
    obtain ⟨k, ks, hk, rfl, hin⟩ := hrel
    have HI := Lib.hid hin
    by_cases hlt : k < len
    · obtain ⟨bb, off, r, rfl, hx, hb, hc, hsr⟩ := PartsS.at_ (HR.out.keep hin.bel) hlt
      have hki : (k : Int) < (len : Int) := by omega
      have HNx := Lib.hid (allS_next hx)
      have HGr := Lib.hid (HG.out r (List.mem_of_getElem? hx))
      have HSr := Lib.hid (HR.out.2 r (List.mem_of_getElem? hx))
      have hll : (allS (rows.take k)).length + r.l.length ≤ 800 := by
        have h1 := congrArg List.length (allS_next hx)
        have h2 : (allS (rows.take (k + 1))).length ≤ (allS rows).length := by
          conv => rhs; rw [← List.take_append_drop (k + 1) rows]
          unfold allS; rw [List.flatMap_append, List.length_append]; omega
        rw [List.length_append] at h1
        have := HN.out; omega
      have HLL := Lib.hid hll
      have HRl := Lib.hid hsr.1
      obtain ⟨RA, rn, rc, rl⟩ := r
      dsimp only at hc HSr HRl HNx HLL HGr
      generalize allS (rows.take k) = L0 at *
      have hrn : rn ≤ 800 := by have := HRl.out; have := HLL.out; omega
      clear hx hb hin hsr hll
      obtain ⟨wo, rfl⟩ : ∃ wo : World, wo = wr := ⟨_, rfl⟩
      go_wp2
      clear hc
      go_loopw [17] (fun j wr => ∃ (m : Nat) (ks : List Int), m ≤ rn ∧ j = .int .i64 m ∧ MgI w wr w.heap.size ks (L0 ++ rl.take m)) (fun j _ => rn - (intOf j).toNat)
      case atStart => exact ⟨0, ks, Nat.zero_le _, rfl, by simpa using HI.out⟩
      case round =>
        obtain ⟨m, ks, hm, rfl, hin⟩ := hrel
        by_cases hlt2 : m < rn
        · obtain ⟨b2, off2, x, rfl, hx, hb2, c0, c1⟩ := SmpsAre.at_ (slice_keep HSr.out hin.bel) hlt2
          have hmi : (m : Int) < (rn : Int) := by omega
          have HXg := Lib.hid (HGr.out x (List.mem_of_getElem? hx))
          have HNn := Lib.hid (take_nx hx)
          have BX := Lib.hid (Blk.new wr 65 #[.int .i64 x.tick, .int .i64 x.value])
          have J := Lib.hid (hin.call (W := wr.alloc (.cells #[.int .i64 x.tick, .int .i64 x.value] 65)) ((Below.refl _ _).alloc (Nat.le_refl _) _))
          have HNl := Lib.hid (show (L0 ++ rl.take m).length ≤ 800 from by rw [List.length_append, List.length_take]; have := HLL.out; omega)
          have HbX := Lib.hid (show w.heap.size < wr.heap.size from hin.map.lt)
          clear hx hb2 hin
          obtain ⟨xt, xv⟩ := x
          dsimp only at c0 c1 BX J
          obtain ⟨V, hV⟩ : ∃ V, V = (sumF (L0 ++ rl.take m) xt).getD 0 := ⟨_, rfl⟩
          have HVg := Lib.hid (show I64 V from by rw [hV, sumF_get]; have := sumT_nonneg (L0 ++ rl.take m) xt; unfold I64 mxI; omega)
          have HLk := Lib.hid (show (tabI (sumF (L0 ++ rl.take m)) xt).getD (.int .i64 0) = .int .i64 V from by rw [tabI_get, hV])
          have HMg := Lib.hid (show I64 (max xv 0) from by have := HXg.out.2; unfold I64 at *; simp only at this; omega)
          have HPut := Lib.hid (fun W0 W (hJ : MgI w W0 w.heap.size ks (L0 ++ rl.take m)) hm hg => (show MgI w W w.heap.size (keyPut ks xt) (L0 ++ rl.take (m + 1)) from by
            rw [HNn.out, ← List.append_assoc]
            exact hJ.put (x := ⟨xt, xv⟩) HXg.out hm hg))
          dsimp only at HPut
          rw [← hV] at HPut
          clear hV
          focus (go_upto_region 8 with fail)
          clear c0 c1
          generalize wr.alloc (.cells #[.int .i64 xt, .int .i64 xv] 65) = W1 at *
          generalize wr.heap.size = gx at *
          refine wp_region_any (by kernel_rfl) ?_; change wpAny _ _ _ _ _ _ _ (World.drew W1); refine any_of_anyG (late := fun j => [11].contains j) (S := fun wS => Below W1.heap.size W1 wS) _ _ _ _ ?_
          have S0 := (Below.refl W1.heap.size W1).drew
          refine anyG_takes (is := [0, 1, 2, 3, 4]) (vs := [_, _, .int .i64 xt, _, _]) (m := 7) (listed2 := #[true, true, true, true, true, false, false, false, false, false, false, false]) (a2 := ⟨#[_, _, _, _, _, _, _, _, _, _, _, _, _, _, _, _, _, _, _, _, _, _, _, _, _, _, _, _, _, _, _, _, _, _, _, _], []⟩) (by kernel_rfl) (fun j hj => by first | (simp at hj; done) | (simp at hj; simp; omega)) (by kernel_rfl) (fun _ _ _ _ _ h => h) (Ys.cons rfl (Or.inl ⟨by rfl, fun W1 hW1 => by first | rfl | (go_simp; done) | (go_simp; with_reducible rfl)⟩) (Ys.cons rfl (Or.inl ⟨by rfl, fun W1 hW1 => by first | rfl | (go_simp; done) | (go_simp; with_reducible rfl)⟩) (Ys.cons rfl (Or.inl ⟨by rfl, fun W1 hW1 => by have c := (BX.out.call hW1).cellv (i := 0) (v := .int .i64 xt) rfl; go_simp⟩) (Ys.cons rfl (Or.inl ⟨by rfl, fun W1 hW1 => by first | rfl | (go_simp; done) | (go_simp; with_reducible rfl)⟩) (Ys.cons rfl (Or.inl ⟨by rfl, fun W1 hW1 => by first | rfl | (go_simp; done) | (go_simp; with_reducible rfl)⟩) (Ys.nil)))))) (S0) (by rfl) (by rfl) ?_
          refine anyG_takes (is := [5, 7, 8, 9]) (vs := [.int .i64 xt, _, .int .i64 xv, .int .i64 (max xv 0)]) (m := 3) (listed2 := #[true, true, true, true, true, true, false, true, true, true, false, false]) (a2 := ⟨#[_, _, _, _, _, _, _, _, _, _, _, _, _, _, _, _, _, _, _, _, _, _, _, _, _, _, _, _, _, _, _, _, _, _, _, _], []⟩) (by kernel_rfl) (fun j hj => by first | (simp at hj; done) | (simp at hj; simp; omega)) (by kernel_rfl) (fun _ _ _ _ _ h => h) (Ys.cons rfl (Or.inl ⟨by rfl, fun W1 hW1 => by have c := (BX.out.call hW1).cellv (i := 0) (v := .int .i64 xt) rfl; go_simp⟩) (Ys.cons rfl (Or.inl ⟨by rfl, fun W1 hW1 => by first | rfl | (go_simp; done) | (go_simp; with_reducible rfl)⟩) (Ys.cons rfl (Or.inl ⟨by rfl, fun W1 hW1 => by have c := (BX.out.call hW1).cellv (i := 1) (v := .int .i64 xv) rfl; go_simp⟩) (Ys.cons rfl (Or.inl ⟨by rfl, fun W1 hW1 => by go_simp⟩) (Ys.nil))))) (S0) (by rfl) (by rfl) ?_
          refine anyG_one (k := 6) (by kernel_rfl) rfl (by rfl) (fun Q2 hQ2 => ?_); go_wp2_with (refine wpList_map_look _ rfl _ _ 112 rfl 2 2 Try.underlying2 Try.underlying112 (.int .i64 0) (zero_i64 _) w.heap.size _ _ rfl (J.out.call (S0)).map xt rfl HXg.out.1 ?_; rw [HLk.out]); refine hQ2 _ _ (fun _ => S0) ?_; clear hQ2 Q2
          refine anyG_one (k := 10) (by kernel_rfl) rfl (by rfl) (fun Q2 hQ2 => ?_); go_wp2_with (go_at_call 76; refine (sat_AddB V (max xv 0) _ HVg.out HMg.out).mono ?_; rintro e v10 ⟨rfl, hb10⟩); refine hQ2 _ _ (fun _ => S0.trans (hb10.mono S0.size)) ?_; clear hQ2 Q2
          have S10 := S0.trans (hb10.mono S0.size)
          refine anyG_of_any _ _ _ _ (by kernel_rfl) ?_
          refine any_one (k := 11) (by kernel_rfl) rfl (by rfl) (fun Q2 hQ2 => ?_); go_wp2_with (refine wpList_map_put _ rfl _ _ _ 112 rfl 2 2 Try.underlying2 Try.underlying112 w.heap.size _ _ rfl (J.out.call (S10)).map (by have := J.out.len; have := HNl.out; unfold maxLen; omega) xt rfl HXg.out.1 _ rfl ?_; intro w5 hm5 hg5); (try refine hQ2 _ _ ?_); (try clear hQ2 Q2)
          refine wpAny_done (by kernel_rfl) ?_ _
          have X5 := Lib.hid (HPut.out _ _ (J.out.call S10) hm5 hg5)
          clear hm5 hg5 S0 S10
          go_wp2
          go_roundw
          case rel => exact ⟨m + 1, _, by omega, by go_num, X5.out⟩
          case measure => simp [intOf]; omega
        · obtain rfl : m = rn := by omega
          have HE := Lib.hid (show MgI w wr w.heap.size ks (allS (rows.take (k + 1))) from by
            rw [HNx.out]
            have := hin
            rwa [List.take_of_length_le (by have := HRl.out; omega)] at this)
          clear hin
          go_wp2
          go_roundw
          case rel => exact ⟨k + 1, ks, by omega, by go_num, HE.out⟩
          case measure => simp [intOf]; omega
    · have hE : rows.take k = rows := List.take_of_length_le (by have := HLl.out; omega)
      rw [hE] at hin
      have HS := Lib.hid (blend_sorted w.heap.size _ ks wr hin.map (by have := hin.len; have := HN.out; omega) hin.i64)
      have HQ := Lib.hid (mapS_mrg hin.map (fun x hx => by
        unfold allS at hx
        obtain ⟨r, hr, hxr⟩ := List.mem_flatMap.1 hx
        exact HG.out r hr x hxr))
      have HBl := Lib.hid hin.bel
      have hki : (len : Int) ≤ (k : Int) := by omega
      clear hE hin
      go_wp2_with (go_at_call 77; refine HS.out.mono ?_; rintro e w5 ⟨v, rfl, ho5, hb5⟩; obtain ⟨A5, n5, c5, rfl, -, -⟩ := ho5.shape (fun _ => rfl); have O5 := Lib.hid ho5; have B5 := Lib.hid (HBl.out.trans (hb5.mono HBl.out.size)); clear ho5 hb5)
      go_ret
      exact ⟨_, rfl, by rw [← HQ.out]; exact O5.out.mono HBl.out.size, B5.out⟩
end Go.Proofs.Ytkjmacdekfbfhaa
