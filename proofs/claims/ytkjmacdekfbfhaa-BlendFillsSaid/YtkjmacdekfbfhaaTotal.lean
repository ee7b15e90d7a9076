/- The sums of lists as numbers of 128 bits. -/
import Derived.Test.YtkjmacdekfbfhaaNum5
import Derived.Test.YtkjmacdekfbfhaaSat
import Derived.Test.YtkjmacdekfbfhaaRegB
namespace Go.Proofs.Ytkjmacdekfbfhaa
open Go.RowKit
set_option linter.unusedSimpArgs false
set_option linter.unusedVariables false
set_option maxHeartbeats 400000
def totq (l : List Int) : Nat := (l.map Int.toNat).sum
theorem totq_snoc (l : List Int) (x : Int) : totq (l ++ [x]) = totq l + x.toNat := by simp [totq]
theorem totq_lt (l : List Int) (hg : ∀ x ∈ l, I64 x) : totq l ≤ l.length * 9223372036854775807 := by
  induction l with
  | nil => simp [totq]
  | cons x l ih =>
    have h1 := ih (fun y hy => hg y (by simp [hy]))
    have h2 := hg x (by simp)
    unfold I64 at h2
    simp only [totq, List.map_cons, List.sum_cons, List.length_cons] at *
    omega
theorem take_I64 {l : List Int} (hg : ∀ x ∈ l, I64 x) (k : Nat) : ∀ x ∈ l.take k, I64 x := fun x hx => hg x (List.mem_of_mem_take hx)
theorem wpList_store_fresh2 {P : Program} {ops : Array Oper} {rest : List Oper} {op : Oper} {a : Act} {W : World} {Q : Exit → Act → World → Prop} (hgd : op.guard = none) (ty : TypeId) (x y : Operand) (ho : op.op = .store ty x y)
    (w : World) (t : TypeId) (cs new : Array Value) (hW : W = w.alloc (.cells cs t)) (g : Nat) (hx : a.eval x = .pointer (some ⟨g, 0, none⟩)) (hg : g = w.heap.size) (hy : a.eval y = .agg new) (hs : new.size = cs.size) (hi : (P.info? ty).map (·.size) = some new.size) (h1 : new.all (·.oneCell') = true)
    (h : wpList P ops Q rest (a.put op.dst undef) (w.alloc (.cells new t))) : wpList P ops Q (op :: rest) a W := by
  subst hg
  exact wpList_store_fresh hgd ty x y ho w t cs new hW hx hy hs hi h1 h
set_option maxRecDepth 100000 in
theorem num_Total (A : Option Addr) (len cap : Nat) (l : List Int) (w : World) (hs : IntsAre w A len cap l) (hg : ∀ x ∈ l, I64 x) (hn : len ≤ 1000000) :
    Calls Try.prog 156 #[.slice A len cap] w fun e w' => e = .returned (.agg (bitsA (totq l))) ∧ Below w.heap.size w w' := by
  have HS := Lib.hid hs
  have HG := Lib.hid hg
  have HL := Lib.hid hs.1
  clear hs hg
  go_enter Try.func156, Try.ntmps156
  go_wp2_with (first | (refine wpList_store_fresh2 rfl 201 _ _ rfl _ _ _ (bitsA 0) rfl _ rfl (by simp) (by rw [← zeros_num]; rfl) (by rw [bitsA_size]; kernel_rfl) (info_num _) (bitsA_one _) ?_))
  go_loopw [4] (fun i wr => ∃ k O : Nat, k ≤ len ∧ i = .int .i64 k ∧ O = totq (l.take k) ∧ Blk wr w.heap.size 201 (bitsA 0) ∧ Blk wr (w.heap.size + 1) 201 (bitsA O) ∧ Below w.heap.size w wr) (fun i _ => len - (intOf i).toNat)
  case atStart =>
    refine ⟨0, 0, by omega, rfl, rfl, ?_, ?_, by go_grown⟩
    · rw [← zeros_num]; exact (Blk.new w _ _).alloc _
    · rw [← zeros_num]; exact Blk.new_ w _ _ _
  case round =>
    obtain ⟨k, O, hk, rfl, hO, h0, h1, hbel⟩ := hrel
    have H0 := Lib.hid h0
    have H1 := Lib.hid h1
    have HBel := Lib.hid hbel
    by_cases hlt : k < len
    · obtain ⟨b, off, x, rfl, hx, hb, hc⟩ := HS.out.at_ hlt
      have kc := (hbel.cell (p := ⟨b, off + k, none⟩) hb).trans hc
      have hxI := HG.out x (List.mem_of_getElem? hx)
      unfold I64 at hxI
      have hsn := totq_snoc (l.take k) x
      rw [← take_next hx, ← hO] at hsn
      have hle := totq_lt (l.take k) (take_I64 HG.out k)
      have hlk : (l.take k).length ≤ 1000000 := by rw [List.length_take]; omega
      have hle2 : totq (l.take k) ≤ 1000000 * 9223372036854775807 := Nat.le_trans hle (Nat.mul_le_mul_right _ hlk)
      rw [← hO] at hle2
      clear hle hlk
      have hki : (k : Int) < (len : Int) := by omega
      by_cases hpos : 0 < x
      · obtain ⟨X, rfl⟩ : ∃ X : Nat, x = (X : Int) := ⟨x.toNat, by omega⟩
        rw [Int.toNat_natCast] at hsn
        have HN := Lib.hid (show addRow O X = totq (l.take (k + 1)) by rw [hsn]; unfold addRow; rw [if_pos (by omega)])
        have HM := Lib.hid (show O < 2 ^ 128 ∧ X < 2 ^ 128 ∧ X < 2 ^ 64 by omega)
        have hb0 : b < wr.drew.heap.size := Nat.lt_of_lt_of_le hb hbel.size
        clear hsn hle2 hO hx hc hb h0 h1
        have hld := fun (W : World) (h : Blk W (w.heap.size + 1) 201 (bitsA O)) => run_loadAt_blk (P := Try.prog) W (w.heap.size + 1) 201 201 (bitsA O) _ h Try.underlying201 rfl (info_num O)
        have HLD := Lib.hid hld
        clear hld
        go_wp2
        refine wp_region_any (by kernel_rfl) ?_
        refine wpAny_take (i := 1) (v := _) rfl (by kernel_rfl) (by kernel_rfl) (by kernel_rfl) (fun _ _ _ h => h) (Or.inl ⟨by rfl, fun W => by rfl⟩) ?_
        refine wpAny_take (i := 2) (v := _) rfl (by kernel_rfl) (by kernel_rfl) (by kernel_rfl) (fun _ _ _ h => h) (Or.inl ⟨by rfl, fun W => by rfl⟩) ?_
        change wpAny _ _ _ _ _ _ _ (World.drew _)
        refine any_of_anyG (late := fun j => Nat.ble 7 j && Nat.blt j 12) (S := fun w' => Blk w' (w.heap.size + 1) 201 (bitsA O)) _ _ _ _ ?_
        refine anyG_take (i := 0) (v := .agg (bitsA _)) rfl (by kernel_rfl) (by kernel_rfl) (by kernel_rfl) (by kernel_rfl) rfl (by kernel_rfl) (fun j hj => by first | (simp at hj; done) | (simp at hj; simp; omega)) (fun _ _ _ h => h) (Or.inl ⟨by rfl, fun W hW => exec_load (ty := 201) (x := .tmp 3) rfl rfl (HLD.out W hW)⟩) H1.out.drew ?_
        refine anyG_one (k := 3) (by kernel_rfl) rfl (by rfl) (fun Q2 hQ2 => ?_); go_wp2_with fail; refine hQ2 _ _ (fun _ => H1.out.drew) ?_; clear hQ2 Q2
        refine anyG_one (k := 4) (by kernel_rfl) rfl (by rfl) (fun Q2 hQ2 => ?_); go_wp2_with fail; refine hQ2 _ _ (fun _ => H1.out.drew) ?_; clear hQ2 Q2
        refine anyG_one (k := 5) (by kernel_rfl) rfl (by rfl) (fun Q2 hQ2 => ?_); go_wp2_with fail; refine hQ2 _ _ (fun _ => H1.out.drew) ?_; clear hQ2 Q2
        refine anyG_one (k := 6) (by kernel_rfl) rfl (by rfl) (fun Q2 hQ2 => ?_); go_wp2_with (go_at_call 171; refine (num_OfLo X _ HM.out.2.2).mono ?_; rintro e v2 ⟨rfl, hb2⟩); refine hQ2 _ _ (fun _ => H1.out.drew.call hb2) ?_; clear hQ2 Q2
        refine anyG_of_any _ _ _ _ (by kernel_rfl) ?_
        refine any_one (k := 7) (by kernel_rfl) rfl (by rfl) (fun Q2 hQ2 => ?_); go_wp2_with (go_at_call 172; refine (num_Add O X _ HM.out.1 HM.out.2.1).mono ?_; rintro e v3 ⟨rfl, hb3⟩); (try refine hQ2 _ _ ?_); (try clear hQ2 Q2)
        refine any_one (k := 8) (by kernel_rfl) rfl (by rfl) (fun Q2 hQ2 => ?_); go_wp2_with fail; (try refine hQ2 _ _ ?_); (try clear hQ2 Q2)
        refine wpAny_take (i := 9) (v := _) rfl (by kernel_rfl) (by kernel_rfl) (by kernel_rfl) (fun _ _ _ h => h) (Or.inl ⟨by rfl, fun W => by rfl⟩) ?_
        refine wpAny_take (i := 10) (v := _) rfl (by kernel_rfl) (by kernel_rfl) (by kernel_rfl) (fun _ _ _ h => h) (Or.inl ⟨by rfl, fun W => by rfl⟩) ?_
        refine any_one (k := 11) (by kernel_rfl) rfl (by rfl) (fun Q2 hQ2 => ?_); go_wp2_with (refine wpList_store_row rfl 201 (.tmp 3) _ rfl (w.heap.size + 1) _ _ _ rfl rfl ((H1.out.drew.call hb2).call hb3) (by rw [bitsA_size, bitsA_size]) (info_num _) (bitsA_one _) ?_; intro v4 hb4 hg4); (try refine hQ2 _ _ ?_); (try clear hQ2 Q2)
        refine wpAny_done (by kernel_rfl) ?_ _
        go_wp2
        go_roundw
        case rel =>
          refine ⟨k + 1, addRow O X, by omega, by go_num, HN.out, ((H0.out.drew.call hb2).call hb3).grown hg4 (by simp), hb4, ?_⟩
          have e1 := (HBel.out.drew.trans (hb2.mono HBel.out.size))
          have e2 := e1.trans (hb3.mono e1.size)
          exact e2.trans (Only.below hg4 (by omega) e2.size)
        case measure => simp [intOf]; omega
      · have d : decide (0 < x) = false := by simpa using hpos
        have HN := Lib.hid (show O = totq (l.take (k + 1)) by rw [hsn, show x.toNat = 0 by omega, Nat.add_zero])
        clear hsn hle2 hO hx hc hb h0 h1
        go_wp2
        go_roundw
        case rel => exact ⟨k + 1, O, by omega, by go_num, HN.out, H0.out, H1.out, HBel.out⟩
        case measure => simp [intOf]; omega
    · obtain rfl : k = len := by omega
      clear h0 h1
      obtain rfl : O = totq l := by rw [hO, List.take_of_length_le (by have := HL.out; omega)]
      clear hO
      go_wp2_with (first | (refine Blk.load rfl 201 (.tmp 3) rfl (w.heap.size + 1) _ _ _ rfl (H1.out) Try.underlying201 rfl (info_num _) ?_) | (refine wpList_store_row rfl 201 (.tmp 2) _ rfl w.heap.size _ _ _ rfl rfl H0.out (by rw [bitsA_size, bitsA_size]) (info_num _) (bitsA_one _) ?_; intro w5 hb5 hg5))
      refine bodyPost_ret (results_row rfl _ _ w.heap.size _ _ _ rfl hb5 Try.underlying201 rfl (info_num _)) rfl ⟨rfl, HBel.out.trans (Only.below hg5 (by omega) HBel.out.size)⟩
end Go.Proofs.Ytkjmacdekfbfhaa
