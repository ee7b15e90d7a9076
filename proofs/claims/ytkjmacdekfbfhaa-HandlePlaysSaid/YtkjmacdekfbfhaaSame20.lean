/- flywheellaw20.same: a table tells just the cuts of the list. -/
import Derived.Test.YtkjmacdekfbfhaaHandS
import Derived.BigQuiet
namespace Go.Proofs.Ytkjmacdekfbfhaa
open Go.RowKit
set_option linter.unusedSimpArgs false
set_option linter.unusedVariables false
set_option maxHeartbeats 4000000
set_option maxRecDepth 100000
theorem info_int20 : (Try.prog.info? 3).map (fun i => (i.zero, i.size, i.bytes)) = some (some (.int .i64 0), 1, 8) := by kernel_rfl
/-- The numbers below n that are there. -/
def below20 (E : List Int) (n : Nat) : List Int := liveNs 0 (E.take (n - 1))
theorem below20_no {E : List Int} {n : Nat} (h : findq E n ≠ 0) : below20 E (n + 1) = below20 E n := by
  unfold below20
  cases n with
  | zero => rfl
  | succ m =>
    show liveNs 0 (E.take (m + 1)) = liveNs 0 (E.take m)
    by_cases hm : m < E.length
    · have hx := List.getElem?_eq_getElem hm
      rw [take_nxt hx, liveNs_snoc]
      have : ¬ 0 ≤ E[m] := fun h0 => h ((findq_zero E _).2 ((liveNs_mem E 0 _).2 ⟨m, by omega, _, hx, h0⟩))
      rw [if_neg this, List.append_nil]
    · rw [List.take_of_length_le (by omega), List.take_of_length_le (by omega)]
theorem below20_yes {E : List Int} {n : Nat} (h : findq E n = 0) : below20 E (n + 1) = below20 E n ++ [(n : Int)] := by
  obtain ⟨i, h1, e, h2, h3⟩ := (liveNs_mem E 0 _).1 ((findq_zero E _).1 h)
  obtain rfl : n = i + 1 := by omega
  unfold below20
  show liveNs 0 (E.take (i + 1)) = liveNs 0 (E.take i) ++ _
  have hl := (List.getElem?_eq_some_iff.1 h2).1
  rw [take_nxt h2, liveNs_snoc, if_pos h3, List.length_take]
  congr 2
  omega
theorem below20_len (E : List Int) (n : Nat) : (below20 E n).length ≤ E.length := by
  have h := liveNs_len (E.take (n - 1)) 0
  have h2 := liveq_le (E.take (n - 1))
  unfold below20
  rw [List.length_take] at h2
  omega
theorem law20_same (w0 : World) (g b : Nat) (fp : Int → Option Nat) (ks E : List Int) (A : Option Addr) (len cap : Nat) (w : World) (h : HSt w0 w g b fp ks E) (hE : IntsAre w A len cap E) (hl : len ≤ 100) :
    Calls Try.prog 52 #[.pointer (some ⟨g, 0, none⟩), .agg #[.slice A len cap]] w fun e w' => e = .returned (.bool true) ∧ Below w.heap.size w w' := by
  have H := Lib.hid h
  have HE := Lib.hid hE
  have hlen := hE.1
  have B0 := Blk.new w t20 (boxT A len cap)
  have HB0 := Lib.hid B0
  have HW := Lib.hid ((Below.refl w.heap.size w).alloc (Nat.le_refl _) (.cells (boxT A len cap) t20))
  have hw1 : IntKind.i64.wrap ((len : Int) + 1) = (len : Int) + 1 := by rw [IntKind.wrap_i64]; omega
  clear h hE B0
  go_enter Try.func52, Try.ntmps52
  go_wp2
  go_loopw [5, 6] (fun v i wr => ∃ k : Nat, k ≤ len + 2 ∧ i = .int .i64 k ∧ OwnL wr (w.heap.size + 1) v (below20 E k) ∧ Below (w.heap.size + 1) (w.alloc (.cells (boxT A len cap) t20)) wr) (fun _ i _ => len + 2 - (intOf i).toNat)
  case atStart => exact ⟨0, Nat.zero_le _, rfl, Own.nil _ _ _ _ _, Below.refl _ _⟩
  case round =>
    obtain ⟨k, hk, rfl, hown, hbel⟩ := hrel
    have c0 := (HB0.out.below hbel (by omega)).cellv (i := 0) (v := .slice A len cap) rfl
    have hb2 := HW.out.trans (hbel.mono (by omega))
    have HS := Lib.hid (H.out.call hb2)
    have hsz : w.heap.size + 1 ≤ wr.heap.size := by have := hbel.size; simpa using this
    have HB1 := Lib.hid (HB0.out.below hbel (by omega))
    by_cases hlt : k < len + 2
    · have hki : (k : Int) ≤ (len : Int) + 1 := by omega
      have hI : I64 (k : Int) := by unfold I64; omega
      have HF := Lib.hid (fun W (hW : IntsAre W A len cap E) => ref20_Find A len cap E k W hW (by omega) hI)
      have HEw := Lib.hid (slice_keep HE.out hb2)
      have HBel := Lib.hid hbel
      have HOwn := Lib.hid hown
      clear hbel hown hb2
      have HG := Lib.hid (hlen)
      by_cases hf : findq E k = 0
      · obtain ⟨gn, e, hfp, hge, hbe⟩ := HS.out.there hf
        have hk1 : 1 ≤ k ∧ k ≤ len := by
          unfold findq at hf
          by_cases c : (k : Int) < 1 ∨ (E.length : Int) < k
          · rw [if_pos c] at hf; cases hf
          · omega
        obtain ⟨m, hm⟩ : ∃ m : Nat, m + 1 = k := ⟨k - 1, by omega⟩
        have hwm : IntKind.i64.wrap ((k : Int) - 1) = (m : Int) := by rw [IntKind.wrap_i64]; omega
        have hml : (m : Int) < (len : Int) := by omega
        obtain ⟨b2, off, x, rfl, hx, hb, t0⟩ := IntsAre.at_ HEw.out (show m < len by omega)
        obtain rfl : x = e := by rw [show ((k : Int) - 1).toNat = m by omega, hx] at hge; exact Option.some.inj hge
        have HN := Lib.hid (below20_yes hf)
        have HGet := Lib.hid (handle_Get g b gn fp ks _ k wr HS.out.tab hI (by rw [HS.out.find]; exact hf) hfp)
        have HFr := Lib.hid (HF.out wr HEw.out)
        rw [hf] at HFr
        have HBe := Lib.hid hbe
        have HEp := Lib.hid (fun W (hW : Blk W gn tCut (cutRow x)) => cut_Epoch gn x W hW)
        have HT0 := Lib.hid (show b2 < wr.heap.size ∧ wr.cell? ⟨b2, off + m, none⟩ = some (.int .i64 x) from ⟨hb, t0⟩)
        have HLk := Lib.hid (show (below20 E k).length < 1000000 by have := below20_len E k; omega)
        have hxx : (x != x) = false := by simp
        obtain ⟨A5, n5, c5, rfl, -, -⟩ := HOwn.out.shape (fun _ => rfl)
        clear hf hbe hx hb t0 hge hfp HF HG
        go_wp2_with (first
          | (go_at_call 45; refine HGet.out.mono ?_; rintro e w2 ⟨rfl, rfl⟩)
          | (go_at_call 49; refine HFr.out.mono ?_; rintro e w2 ⟨rfl, hb2⟩; have c1 := (HB1.out.call hb2).cellv (i := 0) (v := .slice (some ⟨b2, off, none⟩) len cap) rfl; have k1 := (hb2.cell (p := ⟨b2, off + m, none⟩) HT0.out.1).trans HT0.out.2; have HB2 := Lib.hid hb2; clear hb2))
        go_quiet ((go_at_call 92; exact Calls.quiet_of_same ((HEp.out _ ((HBe.out.call HB2.out).drewN _)).mono fun _ _ h => ⟨h.1, h.2.symm⟩)))
        go_wp2_with (at_builtin; refine wpList_push _ rfl (.tmp 54) (.tmp 56) 80 rfl (w.heap.size + 1) 3 _ 1 8 (fun n : Int => [Value.int .i64 n]) Try.underlying80 info_int20 (by rfl) (by decide) (fun _ => rfl) (fun _ u hu => by simp at hu; subst hu; rfl) (.slice A5 n5 c5) (below20 E k) rfl (((HOwn.out.call HB2.out).drewN_ nq).alloc _) ⟨w2.heap.size, 0, none⟩ 1 (k : Int) rfl (blk_news (α := Int) (vs := [Value.int .i64 (k : Int)]) (Blk.new (w2.drewN nq) _ _) rfl) HLk.out (by decide) (by have := HB2.out.size; simp; omega) ?_; intro v' w3 ho3 hb3 hg3)
        go_roundw
        case rel => exact ⟨k + 1, by omega, by go_num, by rw [HN.out]; exact ho3, ((below_drewN (HBel.out.trans (HB2.out.mono hsz)) nq).alloc (by have := HB2.out.size; simp; omega) _).trans hb3⟩
        case measure => simp [intOf]; omega
      · have HN := Lib.hid (below20_no hf)
        have HGet := Lib.hid (handle_Get_no g b fp ks _ k wr HS.out.tab hI (by rw [HS.out.find]; exact hf))
        rw [HS.out.find] at HGet
        have HFr := Lib.hid (HF.out wr HEw.out)
        have hfv : findq E k = 5 ∨ findq E k = 8 := by unfold findq at hf ⊢; (repeat' split at hf) <;> simp_all
        have d1 : ((findq E k) == 0) = false := by simpa using hf
        have d2 : ((findq E k) != (findq E k)) = false := by simp
        clear hf HG
        generalize findq E k = F at *
        go_wp2_with (first
          | (go_at_call 45; refine HGet.out.mono ?_; rintro e w2 ⟨rfl, rfl⟩)
          | (go_at_call 49; refine HFr.out.mono ?_; rintro e w2 ⟨rfl, hb2⟩))
        go_quiet (fail)
        go_wp2
        go_roundw
        case rel => exact ⟨k + 1, by omega, by go_num, by rw [HN.out]; exact (HOwn.out.call hb2).drewN_ nq, below_drewN (HBel.out.trans (hb2.mono hsz)) nq⟩
        case measure => simp [intOf]; omega
    · obtain rfl : k = len + 2 := by omega
      have d3 : decide (((len + 2 : Nat) : Int) ≤ (len : Int) + 1) = false := by first | (simp; done) | (simp; omega)
      have d4 : ¬ ((len : Int) + 2 ≤ (len : Int) + 1) := by omega
      have hbe : below20 E (len + 2) = liveNs 0 E := by unfold below20; rw [List.take_of_length_le (by omega)]
      rw [hbe] at hown
      have HLv := Lib.hid (handle_Live g b fp ks _ wr HS.out.tab (by have h1 := HS.out.len; have h2 := liveq_le E; omega))
      rw [HS.out.srt] at HLv
      obtain ⟨A5, n5, c5, rfl, -, hv5⟩ := hown.shape (fun _ => rfl)
      have HV5 := Lib.hid hv5
      have HB2 := Lib.hid hb2
      clear hown hbel hv5 hb2 hbe
      go_wp2_with (first
        | (go_at_call 47; refine HLv.out.mono ?_; rintro e w2 ⟨v2, rfl, ho2, hb2⟩; obtain ⟨A6, n6, c6, rfl, -, hv6⟩ := ho2.shape (fun _ => rfl); have HV6 := Lib.hid hv6; have HBw := Lib.hid hb2; clear ho2 hv6 hb2)
        | (go_at_call 93; refine (ref07_Same A6 A5 n6 c6 n5 c5 _ _ _ HV6.out (slice_keep HV5.out HBw.out)).mono ?_; rintro e w3 ⟨rfl, hb3⟩))
      go_ret
      exact ⟨by simp, (HB2.out.trans (HBw.out.mono (by omega))).trans (hb3.mono (by have := HBw.out.size; omega))⟩
end Go.Proofs.Ytkjmacdekfbfhaa
