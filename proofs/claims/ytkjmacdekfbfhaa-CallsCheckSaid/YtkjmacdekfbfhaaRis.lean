/- calls.Rising: the walk. -/
import Derived.Test.YtkjmacdekfbfhaaCOp
import Derived.Test.YtkjmacdekfbfhaaMap
namespace Go.Proofs.Ytkjmacdekfbfhaa
open Go.RowKit
set_option linter.unusedSimpArgs false
set_option linter.unusedVariables false
set_option maxHeartbeats 4000000
set_option maxRecDepth 100000
/-- The locks that are held, as a map. -/
def heldF (H : List Int) : Int → Option Value := fun x => if x ∈ H then some (.int .i64 1) else none
theorem heldF_put {H : List Int} {x : Int} (h : x ∉ H) : fPut (heldF H) x (.int .i64 1) = heldF (H ++ [x]) ∧ keyPut H x = H ++ [x] := by
  refine ⟨?_, if_neg h⟩
  funext y
  unfold fPut heldF
  by_cases e : y = x
  · subst e; simp
  · simp [e]
theorem heldF_del {H : List Int} {x : Int} : fDel (heldF H) x = heldF (H.filter fun y => decide (y ≠ x)) := by
  funext y
  unfold fDel heldF
  by_cases e : y = x
  · subst e; simp
  · simp [e]
theorem heldF_look {H : List Int} {x : Int} : (heldF H x).getD (.int .i64 0) = .int .i64 (if x ∈ H then 1 else 0) := by
  unfold heldF; split <;> rfl
theorem zero_int (w : World) : (zeroValue 3).run Try.prog w = .ok (.int .i64 0) w := by kernel_rfl
theorem mem_good {H : List Int} {x : Int} (h : ∀ y ∈ H, I64 y) (hx : I64 x) : ∀ y ∈ H ++ [x], I64 y := by
  intro y hy
  rcases List.mem_append.1 hy with h1 | h1
  · exact h y h1
  · rw [List.mem_singleton.1 h1]; exact hx
theorem drop_at {l : List COp} {k : Nat} {x : COp} (h : l[k]? = some x) : l.drop k = x :: l.drop (k + 1) := by
  obtain ⟨h1, h2⟩ := List.getElem?_eq_some_iff.1 h
  rw [List.drop_eq_getElem_cons h1, h2]
theorem calls_Rising (A : Option Addr) (len cap : Nat) (l : List COp) (w : World) (hs : COpsAre w A len cap l) (hg : ∀ x ∈ l, x.good) (hn : len ≤ 100000) :
    Calls Try.prog 19 #[.slice A len cap] w fun e w' => e = .returned (.bool (ris l [])) ∧ Below w.heap.size w w' := by
  have HS := Lib.hid hs
  have HLl := Lib.hid hs.1
  have HG := Lib.hid hg
  have hm : cap ≤ 9223372036854775807 := by have := hs.2.2.1; unfold maxLen at this; omega
  have hle : len ≤ cap := hs.2.1
  obtain ⟨R, hR⟩ : ∃ R, R = ris l [] := ⟨_, rfl⟩
  rw [← hR]
  have HR := Lib.hid hR
  have hmm := @run_makeMap Try.prog
  have M0 := Lib.hid (MapIs.made Try.prog w 3)
  clear hs hg hR
  go_enter Try.func19, Try.ntmps19
  go_wp2
  go_loopw [10] (fun i wr => ∃ (k : Nat) (H : List Int), k ≤ len ∧ i = .int .i64 k ∧ MapIs Try.prog wr 3 w.heap.size (heldF H) H ∧ (∀ y ∈ H, I64 y) ∧ H.length ≤ k ∧ R = ris (l.drop k) H ∧ Below w.heap.size w wr) (fun i _ => len - (intOf i).toNat)
  case atStart => exact ⟨0, [], Nat.zero_le _, rfl, M0.out.mono_f (by funext x; simp [heldF]) rfl, by simp, Nat.le_refl _, by rw [List.drop_zero]; exact HR.out, by go_grown⟩
  case round =>
    obtain ⟨k, H, hk, rfl, hmp, hh64, hHl, hRk, hbel⟩ := hrel
    have HM := Lib.hid hmp
    have H64 := Lib.hid hh64
    have HRk := Lib.hid hRk
    have HB := Lib.hid hbel
    have hzz := hmp.lt
    have hbs := hbel.size
    clear hmp hh64 hRk hbel hmm
    by_cases hlt : k < len
    · have hki : (k : Int) < (len : Int) := by omega
      obtain ⟨b, off, x, rfl, hx, hb, t0, t1⟩ := COpsAre.at_ (slice_keep HS.out HB.out) hlt
      have HX := Lib.hid hx
      have HD := Lib.hid (HRk.out.trans (by rw [drop_at hx]))
      have hxg := HG.out x (List.mem_of_getElem? hx)
      have hxl : I64 x.lock := hxg.2
      have HXL := Lib.hid hxl
      clear hx hxg hxl
      by_cases hk23 : x.kind = 2 ∨ x.kind = 3
      · have hkd : (x.kind == 2) = true ∨ ((x.kind == 2) = false ∧ (x.kind == 3) = true) := by
          by_cases h : x.kind = 2
          · exact .inl (by simpa using h)
          · exact .inr ⟨by simpa using h, by simp; omega⟩
        have HK := Lib.hid hk23
        clear hk23
        obtain ⟨wo, hwo⟩ : ∃ wo, wo = wr := ⟨_, rfl⟩
        rw [← hwo] at HM HB t0 t1 hb hzz hbs ⊢
        clear hwo
        have M1 := Lib.hid (HM.out.alloc (.cells #[.int .i64 x.kind, .int .i64 x.lock] 35))
        have B1 := Lib.hid (Blk.new wo 35 #[.int .i64 x.kind, .int .i64 x.lock])
        have E1 := Lib.hid (HB.out.alloc HB.out.size (.cells #[.int .i64 x.kind, .int .i64 x.lock] 35))
        rcases hkd with e2 | ⟨e2, e3⟩
        all_goals
          go_wp2_with (at_range; refine wpList_map_range _ rfl _ 109 rfl 3 3 Try.underlying3 Try.underlying109 w.heap.size _ _ rfl M1.out H64.out ?_; intro w1 hrg hgr hsz; simp only [World.size_alloc] at hrg; have Rg := Lib.hid hrg; have B2 := Lib.hid (B1.out.grown hgr (by simp)); have E2 := Lib.hid (E1.out.grown hgr E1.out.size (fun k hk => by cases hk)); clear hrg hgr)
          go_frame
          (try simp only [World.size_alloc])
          go_loopw [6] (fun ot wr2 => ∃ (lf : Int → Bool) (cnt : Nat), MapRng Try.prog wr2 3 w.heap.size (wo.heap.size + 1) (heldF H) H lf cnt ∧ (∀ y ∈ H, lf y = false → y < x.lock) ∧ Blk wr2 wo.heap.size 35 #[.int .i64 x.kind, .int .i64 x.lock] ∧ Below w.heap.size w wr2) (fun _ wr2 => wr2.rangeLeft w.heap.size (wo.heap.size + 1))
          case atStart => exact ⟨_, _, Rg.out, (fun y hy h => absurd hy (by simpa using h)), B2.out, E2.out⟩
          case round =>
            obtain ⟨lf, cnt, hrg2, hlo2, hbk2, hbe2⟩ := hrel
            have HRg := Lib.hid hrg2
            have HLo := Lib.hid hlo2
            have HBk := Lib.hid hbk2
            have HBe := Lib.hid hbe2
            clear hrg2 hlo2 hbk2 hbe2
            go_wp2_with (at_next; refine wpList_map_next _ rfl _ rfl 3 Try.underlying3 w.heap.size (wo.heap.size + 1) _ _ lf cnt rfl HRg.out ?_ ?_)
            · intro hdone
              have hall : ∀ y ∈ H, y < x.lock := fun y hy => HLo.out y hy (hdone y hy)
              have HAll := Lib.hid hall
              have hnm : x.lock ∉ H := fun h => by have := hall _ h; omega
              have HNm := Lib.hid (heldF_put hnm)
              have HMp := Lib.hid HRg.out.is_
              have c0 := HBk.out.cellv (i := 1) (v := .int .i64 x.lock) rfl
              clear hdone hall hnm
              go_wp2_with (at_mapUpdate; refine wpList_map_put _ rfl _ _ _ 109 rfl 3 3 Try.underlying3 Try.underlying109 w.heap.size _ _ rfl HMp.out (by unfold maxLen; omega) x.lock rfl HXL.out (.int .i64 1) rfl ?_; intro w5 hm5 hg5; have M5 := Lib.hid (hm5.mono_f HNm.out.1 HNm.out.2); have E5 := Lib.hid (HBe.out.grown hg5 HBe.out.size (fun k hk => by cases hk; exact Nat.le_refl _)); clear hm5 hg5)
              go_roundw
              case rel => exact ⟨k + 1, H ++ [x.lock], by omega, by go_num, M5.out, mem_good H64.out HXL.out, by simp; omega, HD.out.trans (ris_ask HK.out HAll.out), E5.out⟩
              case measure => simp [intOf]; omega
            · intro y v w4 cnt4 hy64 hyH hly hfy hrg4 hlt4 hgr4 hsz4 hen
              have HR4 := Lib.hid hrg4
              have B4 := Lib.hid (HBk.out.grown hgr4 (by intro h; injection h; omega))
              have E4 := Lib.hid (HBe.out.grown hgr4 HBe.out.size (fun k hk => by cases hk; omega))
              have c0 := B4.out.cellv (i := 1) (v := .int .i64 x.lock) rfl
              obtain rfl : v = .int .i64 1 := by
                unfold heldF at hfy
                rw [if_pos hyH] at hfy
                injection hfy with hfy
                exact hfy.symm
              have HyH := Lib.hid hyH
              have HLt := Lib.hid hlt4
              clear hrg4 hgr4 hly hfy hyH hlt4
              by_cases hyl : x.lock ≤ y
              · have HE := Lib.hid (HD.out.trans (ris_ask_no HK.out HyH.out hyl))
                have dy : decide (x.lock ≤ y) = true := by simpa using hyl
                clear hyl
                go_wp2
                go_ret
                exact ⟨ret_bool HE.out.symm, E4.out⟩
              · have HYl := Lib.hid hyl
                have dy : decide (x.lock ≤ y) = false := by simpa using hyl
                clear hyl
                go_wp2
                go_roundw
                case rel => exact ⟨_, _, HR4.out, (fun z hz h => by
                  by_cases e : z = y
                  · subst e; exact Int.not_le.1 HYl.out
                  · exact HLo.out z hz (by simpa [e] using h)), B4.out, E4.out⟩
                case measure => rw [HR4.out.left_eq, HRg.out.left_eq]; exact HLt.out
      · have e2 : (x.kind == 2) = false := by simp; omega
        have e3 : (x.kind == 3) = false := by simp; omega
        have hk2 : x.kind ≠ 2 := by omega
        have hk3 : x.kind ≠ 3 := by omega
        have HK2 := Lib.hid hk2
        have HK3 := Lib.hid hk3
        clear hk23 hk2 hk3
        have M1 := Lib.hid (HM.out.alloc (.cells #[.int .i64 x.kind, .int .i64 x.lock] 35))
        have E1 := Lib.hid (HB.out.alloc HB.out.size (.cells #[.int .i64 x.kind, .int .i64 x.lock] 35))
        by_cases hk5 : x.kind = 5
        · have e5 : (x.kind == 5) = true := by simpa using hk5
          have HK5 := Lib.hid hk5
          clear hk5
          by_cases hin : x.lock ∈ H
          · have HE := Lib.hid (HD.out.trans (ris_drop HK5.out hin))
            have HLk := Lib.hid (show (heldF H x.lock).getD (.int .i64 0) = .int .i64 1 from by rw [heldF_look, if_pos hin])
            have HFl := Lib.hid (show (H.filter fun y => decide (y ≠ x.lock)).length ≤ H.length from List.length_filter_le _ _)
            have HFg := Lib.hid (fun y (hy : y ∈ H.filter fun y => decide (y ≠ x.lock)) => H64.out y (List.mem_filter.1 hy).1)
            clear hin
            go_wp2_with (first
              | (at_lookup; refine wpList_map_look _ rfl _ _ 109 rfl 3 3 Try.underlying3 Try.underlying109 (.int .i64 0) (zero_int _) w.heap.size _ _ rfl M1.out x.lock rfl HXL.out ?_; rw [HLk.out])
              | (at_delete; refine wpList_map_del _ rfl _ _ 109 3 rfl 3 Try.underlying3 Try.underlying109 w.heap.size _ _ rfl M1.out x.lock rfl HXL.out ?_; intro w5 hm5 hg5; have M5 := Lib.hid (hm5.mono_f heldF_del rfl); have E5 := Lib.hid (E1.out.grown hg5 E1.out.size (fun k hk => by cases hk; exact Nat.le_refl _)); clear hm5 hg5))
            go_roundw
            case rel => exact ⟨k + 1, _, by omega, by go_num, M5.out, HFg.out, by have := HFl.out; omega, HE.out, E5.out⟩
            case measure => simp [intOf]; omega
          · have HE := Lib.hid (HD.out.trans (ris_drop_no HK5.out hin))
            have HLk := Lib.hid (show (heldF H x.lock).getD (.int .i64 0) = .int .i64 0 from by rw [heldF_look, if_neg hin])
            clear hin
            go_wp2_with (at_lookup; refine wpList_map_look _ rfl _ _ 109 rfl 3 3 Try.underlying3 Try.underlying109 (.int .i64 0) (zero_int _) w.heap.size _ _ rfl M1.out x.lock rfl HXL.out ?_; rw [HLk.out])
            go_ret
            exact ⟨ret_bool HE.out.symm, E1.out⟩
        · have e5 : (x.kind == 5) = false := by simpa using hk5
          have HE := Lib.hid (HD.out.trans (ris_skip HK2.out HK3.out hk5))
          clear hk5
          go_wp2
          go_roundw
          case rel => exact ⟨k + 1, H, by omega, by go_num, M1.out, H64.out, by omega, HE.out, E1.out⟩
          case measure => simp [intOf]; omega
    · have HE := Lib.hid (show R = decide (H.length = 0) from HRk.out.trans (by
        rw [List.drop_eq_nil_of_le (by rw [HLl.out]; omega)]
        cases H <;> simp [ris]))
      go_wp2_with (at_len; refine wpList_map_len _ rfl _ 109 rfl 3 3 Try.underlying109 w.heap.size _ _ rfl HM.out ?_)
      go_ret
      exact ⟨ret_bool (by rw [HE.out, Bool.eq_iff_iff]; simp), HB.out⟩
end Go.Proofs.Ytkjmacdekfbfhaa
