/- Package handle: New, Open, find, Get, Free. -/
import Derived.Test.YtkjmacdekfbfhaaCut
import Derived.Test.YtkjmacdekfbfhaaMap
import Derived.Test.YtkjmacdekfbfhaaUpd
namespace Go.Proofs.Ytkjmacdekfbfhaa
open Go.RowKit
set_option linter.unusedSimpArgs false
set_option linter.unusedVariables false
set_option maxHeartbeats 4000000
set_option maxRecDepth 100000
def tabF (fp : Int → Option Nat) : Int → Option Value := fun x => (fp x).map fun g => .pointer (some ⟨g, 0, none⟩)
def fpPut (fp : Int → Option Nat) (x : Int) (g : Nat) : Int → Option Nat := fun y => if y = x then some g else fp y
def fpDel (fp : Int → Option Nat) (x : Int) : Int → Option Nat := fun y => if y = x then none else fp y
theorem tabF_put (fp : Int → Option Nat) (x : Int) (g : Nat) : fPut (tabF fp) x (.pointer (some ⟨g, 0, none⟩)) = tabF (fpPut fp x g) := by
  funext y; unfold fPut tabF fpPut; split <;> rfl
theorem tabF_del (fp : Int → Option Nat) (x : Int) : fDel (tabF fp) x = tabF (fpDel fp x) := by
  funext y; unfold fDel tabF fpDel; split <;> rfl
theorem tabF_some {fp : Int → Option Nat} {x : Int} {g : Nat} (h : fp x = some g) : (tabF fp x).getD (.pointer none) = .pointer (some ⟨g, 0, none⟩) := by unfold tabF; rw [h]; rfl
theorem tabF_none {fp : Int → Option Nat} {x : Int} (h : fp x = none) : (tabF fp x).getD (.pointer none) = .pointer none := by unfold tabF; rw [h]; rfl
theorem zero_cut (w : World) : (zeroValue 75).run Try.prog w = .ok (.pointer none) w := by kernel_rfl
/-- A table: its own block g, its map b. -/
def TabAt (w : World) (g b : Nat) (fp : Int → Option Nat) (ks : List Int) (next : Int) : Prop := Blk w g 124 #[.map (some b), .int .i64 next] ∧ MapIs Try.prog w 3 b (tabF fp) ks ∧ g ≠ b
theorem TabAt.call {w w' : World} {g b : Nat} {fp : Int → Option Nat} {ks : List Int} {next : Int} (h : TabAt w g b fp ks next) (hb : Below w.heap.size w w') : TabAt w' g b fp ks next := ⟨h.1.call hb, h.2.1.call hb, h.2.2⟩
theorem TabAt.below {w w' : World} {g b B : Nat} {fp : Int → Option Nat} {ks : List Int} {next : Int} (h : TabAt w g b fp ks next) (hb : Below B w w') (hg : g < B) (hb2 : b < B) : TabAt w' g b fp ks next := ⟨h.1.below hb hg, h.2.1.below hb hb2, h.2.2⟩
theorem handle_New (w : World) : Calls Try.prog 48 #[] w fun e w' => e = .returned (.pointer (some ⟨w.heap.size + 1, 0, none⟩)) ∧ TabAt w' (w.heap.size + 1) w.heap.size (fun _ => none) [] 1 ∧ Below w.heap.size w w' := by
  have hmm := @run_makeMap Try.prog
  have M0 := Lib.hid ((MapIs.made Try.prog w 3).alloc (.cells #[.map (some w.heap.size), .int .i64 1] 124))
  have B0 := Lib.hid (Blk.new2 w (.map #[] 0) 124 #[.map (some w.heap.size), .int .i64 1])
  go_enter Try.func48, Try.ntmps48
  go_wp2
  go_ret
  exact ⟨rfl, ⟨B0.out, M0.out.mono_f (by funext x; rfl) rfl, by omega⟩, by go_grown⟩
def ferr (fp : Int → Option Nat) (next n : Int) : Int := if n < 1 ∨ next ≤ n then 5 else if fp n = none then 8 else 0
theorem handle_find_nil (n : Int) (w : World) : Calls Try.prog 89 #[.pointer none, .int .i64 n] w fun e w' => e = .returned (.int .i64 5) ∧ w = w' := by
  go_enter Try.func89, Try.ntmps89
  go_wp2
  go_ret
  exact ⟨rfl, rfl⟩
theorem handle_find (g b : Nat) (fp : Int → Option Nat) (ks : List Int) (next n : Int) (w : World) (h : TabAt w g b fp ks next) (hn : I64 n) :
    Calls Try.prog 89 #[.pointer (some ⟨g, 0, none⟩), .int .i64 n] w fun e w' => e = .returned (.int .i64 (ferr fp next n)) ∧ w = w' := by
  have c0 := h.1.cellv (i := 0) (v := .map (some b)) rfl
  have c1 := h.1.cellv (i := 1) (v := .int .i64 next) rfl
  have HM := Lib.hid h.2.1
  clear h
  by_cases h1 : n < 1
  · have HE := Lib.hid (show ferr fp next n = 5 from if_pos (.inl h1))
    have d1 : decide (n < 1) = true := by simpa using h1
    clear h1
    go_enter Try.func89, Try.ntmps89
    go_wp2
    go_ret
    exact ⟨ret_int HE.out.symm, rfl⟩
  have d1 : decide (n < 1) = false := by simpa using h1
  by_cases h2 : next ≤ n
  · have HE := Lib.hid (show ferr fp next n = 5 from if_pos (.inr h2))
    have d2 : decide (next ≤ n) = true := by simpa using h2
    clear h1 h2
    go_enter Try.func89, Try.ntmps89
    go_wp2
    go_ret
    exact ⟨ret_int HE.out.symm, rfl⟩
  have d2 : decide (next ≤ n) = false := by simpa using h2
  cases hf : fp n with
  | none =>
    have HE := Lib.hid (show ferr fp next n = 8 from by unfold ferr; rw [if_neg (by omega), if_pos hf])
    have HL := Lib.hid (tabF_none hf)
    clear h1 h2 hf
    go_enter Try.func89, Try.ntmps89
    go_wp2_with (at_lookup; refine wpList_map_look _ rfl _ _ 122 rfl 3 75 Try.underlying3 Try.underlying122 (.pointer none) (zero_cut _) b _ _ rfl HM.out n rfl hn ?_; rw [HL.out])
    go_ret
    exact ⟨ret_int HE.out.symm, rfl⟩
  | some g1 =>
    have HE := Lib.hid (show ferr fp next n = 0 from by unfold ferr; rw [if_neg (by omega), if_neg (by rw [hf]; simp)])
    have HL := Lib.hid (tabF_some hf)
    clear h1 h2 hf
    go_enter Try.func89, Try.ntmps89
    go_wp2_with (at_lookup; refine wpList_map_look _ rfl _ _ 122 rfl 3 75 Try.underlying3 Try.underlying122 (.pointer none) (zero_cut _) b _ _ rfl HM.out n rfl hn ?_; rw [HL.out])
    go_ret
    exact ⟨ret_int HE.out.symm, rfl⟩
theorem handle_Get_nil (n : Int) (w : World) : Calls Try.prog 45 #[.pointer none, .int .i64 n] w fun e w' => e = .returned (.tuple #[.pointer none, .int .i64 5]) ∧ w = w' := by
  go_enter Try.func45, Try.ntmps45
  go_wp2_with (go_at_call 89; refine (handle_find_nil _ _).mono ?_; rintro e w1 ⟨rfl, rfl⟩)
  go_ret2
  exact ⟨rfl, rfl⟩
theorem handle_Free_nil (n : Int) (w : World) : Calls Try.prog 46 #[.pointer none, .int .i64 n] w fun e w' => e = .returned (.int .i64 5) ∧ w = w' := by
  go_enter Try.func46, Try.ntmps46
  go_wp2_with (go_at_call 89; refine (handle_find_nil _ _).mono ?_; rintro e w1 ⟨rfl, rfl⟩)
  go_ret
  exact ⟨rfl, rfl⟩
theorem handle_Open_nil (p : Option Addr) (w : World) : Calls Try.prog 43 #[.pointer none, .pointer p] w fun e w' => e = .returned (.tuple #[.int .i64 0, .int .i64 5]) ∧ w = w' := by
  go_enter Try.func43, Try.ntmps43
  go_wp2
  go_ret2
  exact ⟨rfl, rfl⟩
theorem handle_Live_nil (w : World) : Calls Try.prog 47 #[.pointer none] w fun e w' => e = .returned (.slice none 0 0) ∧ w = w' := by
  go_enter Try.func47, Try.ntmps47
  go_wp2
  go_ret
  exact ⟨rfl, rfl⟩
theorem handle_Get_no (g b : Nat) (fp : Int → Option Nat) (ks : List Int) (next n : Int) (w : World) (h : TabAt w g b fp ks next) (hn : I64 n) (he : ferr fp next n ≠ 0) :
    Calls Try.prog 45 #[.pointer (some ⟨g, 0, none⟩), .int .i64 n] w fun e w' => e = .returned (.tuple #[.pointer none, .int .i64 (ferr fp next n)]) ∧ w = w' := by
  have HF := Lib.hid (handle_find g b fp ks next n w h hn)
  generalize ferr fp next n = E at *
  have d : (E != 0) = true := by simpa using he
  clear he h
  go_enter Try.func45, Try.ntmps45
  go_wp2_with (go_at_call 89; refine HF.out.mono ?_; rintro e w1 ⟨rfl, rfl⟩)
  go_ret2
  exact ⟨rfl, rfl⟩
theorem handle_Get (g b g1 : Nat) (fp : Int → Option Nat) (ks : List Int) (next n : Int) (w : World) (h : TabAt w g b fp ks next) (hn : I64 n) (he : ferr fp next n = 0) (hf : fp n = some g1) :
    Calls Try.prog 45 #[.pointer (some ⟨g, 0, none⟩), .int .i64 n] w fun e w' => e = .returned (.tuple #[.pointer (some ⟨g1, 0, none⟩), .int .i64 0]) ∧ w = w' := by
  have HF := handle_find g b fp ks next n w h hn
  rw [he] at HF
  have HF := Lib.hid HF
  have HL := Lib.hid (tabF_some hf)
  have c0 := h.1.cellv (i := 0) (v := .map (some b)) rfl
  have HM := Lib.hid h.2.1
  clear he h hf
  go_enter Try.func45, Try.ntmps45
  go_wp2_with (first
    | (go_at_call 89; refine HF.out.mono ?_; rintro e w1 ⟨rfl, rfl⟩)
    | (at_lookup; refine wpList_map_look _ rfl _ _ 122 rfl 3 75 Try.underlying3 Try.underlying122 (.pointer none) (zero_cut _) b _ _ rfl HM.out n rfl hn ?_; rw [HL.out]))
  go_ret2
  exact ⟨rfl, rfl⟩
theorem handle_Free_no (g b : Nat) (fp : Int → Option Nat) (ks : List Int) (next n : Int) (w : World) (h : TabAt w g b fp ks next) (hn : I64 n) (he : ferr fp next n ≠ 0) :
    Calls Try.prog 46 #[.pointer (some ⟨g, 0, none⟩), .int .i64 n] w fun e w' => e = .returned (.int .i64 (ferr fp next n)) ∧ w = w' := by
  have HF := Lib.hid (handle_find g b fp ks next n w h hn)
  generalize ferr fp next n = E at *
  have d : (E == 0) = false := by simpa using he
  clear he h
  go_enter Try.func46, Try.ntmps46
  go_wp2_with (go_at_call 89; refine HF.out.mono ?_; rintro e w1 ⟨rfl, rfl⟩)
  go_ret
  exact ⟨rfl, rfl⟩
def FreeP (w : World) (g b : Nat) (fp : Int → Option Nat) (ks : List Int) (next : Int) (e : Ending) (w' : World) : Prop := e = .returned (.int .i64 0) ∧ TabAt w' g b fp ks next ∧ w.grownBy w' (some b)
theorem handle_Free (g b : Nat) (fp : Int → Option Nat) (ks : List Int) (next n : Int) (w : World) (h : TabAt w g b fp ks next) (hn : I64 n) (he : ferr fp next n = 0) :
    Calls Try.prog 46 #[.pointer (some ⟨g, 0, none⟩), .int .i64 n] w (FreeP w g b (fpDel fp n) (ks.filter fun y => decide (y ≠ n)) next) := by
  have HF := handle_find g b fp ks next n w h hn
  rw [he] at HF
  have HF := Lib.hid HF
  have c0 := h.1.cellv (i := 0) (v := .map (some b)) rfl
  have HM := Lib.hid h.2.1
  have HT := Lib.hid h
  clear he h
  go_enter Try.func46, Try.ntmps46
  go_wp2_with (first
    | (go_at_call 89; refine HF.out.mono ?_; rintro e w1 ⟨rfl, rfl⟩)
    | (at_delete; refine wpList_map_del _ rfl _ _ 122 3 rfl 75 Try.underlying3 Try.underlying122 b _ _ rfl HM.out n rfl hn ?_; intro w5 hm5 hg5; have M5 := Lib.hid (hm5.mono_f (tabF_del fp n) rfl); have G5 := Lib.hid hg5; clear hm5 hg5))
  go_ret
  exact ⟨rfl, ⟨HT.out.1.grown G5.out (fun e => HT.out.2.2 (by injection e)), M5.out, HT.out.2.2⟩, G5.out⟩
theorem handle_Open_none (g b : Nat) (fp : Int → Option Nat) (ks : List Int) (next : Int) (w : World) (h : TabAt w g b fp ks next) (h1 : 1 ≤ next) :
    Calls Try.prog 43 #[.pointer (some ⟨g, 0, none⟩), .pointer none] w fun e w' => e = .returned (.tuple #[.int .i64 0, .int .i64 5]) ∧ w = w' := by
  have c1 := h.1.cellv (i := 1) (v := .int .i64 next) rfl
  have d1 : decide (next < 1) = false := by simp; omega
  clear h
  go_enter Try.func43, Try.ntmps43
  go_wp2
  go_ret2
  exact ⟨rfl, rfl⟩
theorem handle_Open_full (g b g1 : Nat) (fp : Int → Option Nat) (ks : List Int) (next : Int) (w : World) (h : TabAt w g b fp ks next) (h1 : 1 ≤ next) (hf : 64 ≤ ks.length) :
    Calls Try.prog 43 #[.pointer (some ⟨g, 0, none⟩), .pointer (some ⟨g1, 0, none⟩)] w fun e w' => e = .returned (.tuple #[.int .i64 0, .int .i64 6]) ∧ w = w' := by
  have c0 := h.1.cellv (i := 0) (v := .map (some b)) rfl
  have c1 := h.1.cellv (i := 1) (v := .int .i64 next) rfl
  have HM := Lib.hid h.2.1
  have d1 : decide (next < 1) = false := by simp; omega
  have d2 : decide ((64 : Int) ≤ (ks.length : Int)) = true := by simp; omega
  clear h hf
  go_enter Try.func43, Try.ntmps43
  go_wp2_with (at_len; refine wpList_map_len _ rfl _ 122 rfl 3 75 Try.underlying122 b _ _ rfl HM.out ?_)
  go_ret2
  exact ⟨rfl, rfl⟩
def OpenP (w : World) (g b : Nat) (fp : Int → Option Nat) (ks : List Int) (next : Int) (e : Ending) (w' : World) : Prop := e = .returned (.tuple #[.int .i64 next, .int .i64 0]) ∧ TabAt w' g b fp ks (next + 1) ∧ Upd (fun k => k = g ∨ k = b) w w'
theorem handle_Open (g b g1 : Nat) (fp : Int → Option Nat) (ks : List Int) (next : Int) (w : World) (h : TabAt w g b fp ks next) (h1 : 1 ≤ next) (h2 : next ≤ 100000) (hf : ks.length < 64) :
    Calls Try.prog 43 #[.pointer (some ⟨g, 0, none⟩), .pointer (some ⟨g1, 0, none⟩)] w (OpenP w g b (fpPut fp next g1) (keyPut ks next) next) := by
  have c0 := h.1.cellv (i := 0) (v := .map (some b)) rfl
  have c1 := h.1.cellv (i := 1) (v := .int .i64 next) rfl
  have HM := Lib.hid h.2.1
  have HT := Lib.hid h
  have d1 : decide (next < 1) = false := by simp; omega
  have d2 : decide ((64 : Int) ≤ (ks.length : Int)) = false := by simp; omega
  have H64 := Lib.hid (show I64 next from by unfold I64; omega)
  clear h
  go_enter Try.func43, Try.ntmps43
  go_wp2_with (first
    | (at_len; refine wpList_map_len _ rfl _ 122 rfl 3 75 Try.underlying122 b _ _ rfl HM.out ?_)
    | (at_mapUpdate; refine wpList_map_put _ rfl _ _ _ 122 rfl 3 75 Try.underlying3 Try.underlying122 b _ _ rfl HM.out (by unfold maxLen; omega) next rfl H64.out (.pointer (some ⟨g1, 0, none⟩)) rfl ?_; intro w5 hm5 hg5; have M5 := Lib.hid (hm5.mono_f (tabF_put fp next g1) rfl); have B5 := Lib.hid (HT.out.1.grown hg5 (fun e => HT.out.2.2 (by injection e))); have U5 := Lib.hid ((Upd.refl (fun k => k = g ∨ k = b) w).grown hg5 (fun k e => by cases e; exact .inl (.inr rfl))); have k0 := B5.out.cellv (i := 0) (v := .map (some b)) rfl; have k1 := B5.out.cellv (i := 1) (v := .int .i64 next) rfl; have f1 := B5.out.frozen 1; clear hm5 hg5))
  go_ret2
  exact ⟨rfl, ⟨B5.out.set_ 1 _, M5.out.far (fun e => HT.out.2.2 e.symm) _, HT.out.2.2⟩, U5.out.setCell (.inl (.inl rfl)) _⟩
end Go.Proofs.Ytkjmacdekfbfhaa
