/- Package series: New, Right, Len, Last, List, Clone, Trim. -/
import Derived.Test.YtfeccjjheiillaaSer
import Derived.Test.YtfeccjjheiillaaRegT
import Derived.Test.YtfeccjjheiillaaRegL
namespace Go.Proofs.Ytfeccjjheiillaa
open Go.RowKit
set_option linter.unusedSimpArgs false
set_option linter.unusedVariables false
set_option maxHeartbeats 4000000
set_option maxRecDepth 100000
theorem series_New_no (room : Int) (w : World) (h : room < 1 ∨ 256 < room) :
    Calls Try.prog 48 #[.int .i64 room] w fun e w' => e = .returned (.pointer none) ∧ w = w' := by
  rcases h with h | h
  · go_enter Try.func48, Try.ntmps48
    go_wp2
    go_ret
    exact ⟨rfl, rfl⟩
  · have d1 : decide (room < 1) = false := by simp; omega
    go_enter Try.func48, Try.ntmps48
    go_wp2
    go_ret
    exact ⟨rfl, rfl⟩
theorem series_New (room : Int) (w : World) (h1 : 1 ≤ room) (h2 : room ≤ 256) :
    Calls Try.prog 48 #[.int .i64 room] w fun e w' => e = .returned (.pointer (some ⟨w.heap.size, 0, none⟩)) ∧ w' = w.alloc (.cells #[.slice none 0 0, .int .i64 room] 94) := by
  have d1 : decide (room < 1) = false := by simp; omega
  have d2 : decide (256 < room) = false := by simp; omega
  go_enter Try.func48, Try.ntmps48
  go_wp2
  go_ret
  exact ⟨rfl, rfl⟩
theorem SerAt.new (w : World) (room : Int) : SerAt (w.alloc (.cells #[.slice none 0 0, .int .i64 room] 94)) w.heap.size (.slice none 0 0) [] room :=
  ⟨Blk.new _ _ _, Own.nil _ _ _ _ _, by simp [Value.ownBlock]⟩
theorem series_Right (tick value : Int) (w : World) :
    Calls Try.prog 82 #[.int .i64 tick, .int .i64 value] w fun e w' => e = .returned (.int .i64 (serErr tick value)) ∧ w = w' := by
  by_cases h1 : tick < 0
  · rw [serErr_tick h1]
    go_enter Try.func82, Try.ntmps82
    go_wp2
    go_ret
    exact ⟨rfl, rfl⟩
  · by_cases h2 : value < 0
    · rw [serErr_value (by omega) h2]
      go_enter Try.func82, Try.ntmps82
      go_wp2
      go_ret
      exact ⟨rfl, rfl⟩
    · rw [serErr_ok (by omega) (by omega)]
      go_enter Try.func82, Try.ntmps82
      go_wp2
      go_ret
      exact ⟨rfl, rfl⟩
theorem series_Len_nil (w : World) : Calls Try.prog 102 #[.pointer none] w fun e w' => e = .returned (.int .i64 0) ∧ w = w' := by
  go_enter Try.func102, Try.ntmps102
  go_wp2
  go_ret
  exact ⟨rfl, rfl⟩
theorem series_Len (g : Nat) (v : Value) (l : List Smp) (room : Int) (w : World) (h : SerAt w g v l room) (hn : l.length ≤ 100000) :
    Calls Try.prog 102 #[.pointer (some ⟨g, 0, none⟩)] w fun e w' => e = .returned (.int .i64 l.length) ∧ w = w' := by
  obtain ⟨A, n, c, rfl, hnl, hsl⟩ := h.2.1.shape smp_len
  subst hnl
  have c3 := h.1.cellv (i := 0) (v := .slice A l.length c) rfl
  clear h hsl
  go_enter Try.func102, Try.ntmps102
  go_wp2
  go_ret
  exact ⟨rfl, rfl⟩
theorem series_List_nil (w : World) : Calls Try.prog 20 #[.pointer none] w fun e w' => e = .returned (.slice none 0 0) ∧ w = w' := by
  go_enter Try.func20, Try.ntmps20
  go_wp2
  go_ret
  exact ⟨rfl, rfl⟩
theorem series_List (g : Nat) (v : Value) (l : List Smp) (room : Int) (w : World) (h : SerAt w g v l room) (hn : l.length ≤ 100000) :
    Calls Try.prog 20 #[.pointer (some ⟨g, 0, none⟩)] w (CloneS w l) := by
  obtain ⟨A, n, c, rfl, hnl, hsl⟩ := h.2.1.shape smp_len
  have c3 := h.1.cellv (i := 0) (v := .slice A n c) rfl
  have HC := Lib.hid (slices_Clone A n c l w hsl (by omega))
  clear h hsl hnl hn
  go_enter Try.func20, Try.ntmps20
  go_wp2_with fail
  refine HC.out.mono ?_
  rintro e w1 ⟨A1, n1, c1, rfl, ho, hb⟩
  have HO := Lib.hid ho
  have HB := Lib.hid hb
  clear ho hb
  go_wp2
  go_ret
  exact ⟨_, _, _, rfl, HO.out, HB.out⟩
theorem series_Clone_nil (w : World) : Calls Try.prog 117 #[.pointer none] w fun e w' => e = .returned (.pointer none) ∧ w = w' := by
  go_enter Try.func117, Try.ntmps117
  go_wp2
  go_ret
  exact ⟨rfl, rfl⟩
def NewSer (w : World) (l : List Smp) (room : Int) (e : Ending) (w' : World) : Prop := ∃ g v, e = .returned (.pointer (some ⟨g, 0, none⟩)) ∧ SerAt w' g v l room ∧ (∀ k, foot g v k → w.heap.size ≤ k) ∧ Below w.heap.size w w'
theorem series_Clone (g : Nat) (v : Value) (l : List Smp) (room : Int) (w : World) (h : SerAt w g v l room) (hn : l.length ≤ 100000) :
    Calls Try.prog 117 #[.pointer (some ⟨g, 0, none⟩)] w (NewSer w l room) := by
  have HS := Lib.hid h
  have HC := Lib.hid (fun W hW => series_List g v l room W hW hn)
  have hg := h.1.lt
  have sA : ∃ A n c, v = .slice A n c := by obtain ⟨A, n, c, h1, _⟩ := h.2.1.shape smp_len; exact ⟨A, n, c, h1⟩
  obtain ⟨A, n, c, rfl⟩ := sA
  clear h hn
  go_enter Try.func117, Try.ntmps117
  go_upto_region 3 with (fail)
  obtain ⟨w0, hw0⟩ : ∃ w0, w0 = w := ⟨w, rfl⟩
  rw [← hw0] at HS ⊢
  have HW := Lib.hid hw0
  clear hw0
  refine wp_region_any (by kernel_rfl) ?_; change wpAny _ _ _ _ _ _ _ (World.drew w0); refine any_of_anyG (late := fun _ => false) (S := fun wS => Below w0.heap.size w0 wS) _ _ _ _ ?_
  have S0 := (Below.refl w0.heap.size w0).drew
  refine anyG_takes (is := [0, 2, 3, 4, 5]) (vs := [_, _, _, _, .int .i64 room]) (m := 4) (listed2 := #[true, false, true, true, true, true, false, false, false]) (a2 := ⟨#[_, _, _, _, _, _, _, _, _, _, _, _, _], _⟩) (by kernel_rfl) (fun j hj => by simp at hj) (by kernel_rfl) (fun _ _ _ _ _ h => h) (Ys.cons rfl (Or.inl ⟨by rfl, fun W1 hW1 => by first | rfl | (go_simp; done) | (go_simp; with_reducible rfl)⟩) (Ys.cons rfl (Or.inl ⟨by rfl, fun W1 hW1 => by first | rfl | (go_simp; done) | (go_simp; with_reducible rfl)⟩) (Ys.cons rfl (Or.inl ⟨by rfl, fun W1 hW1 => by first | rfl | (go_simp; done) | (go_simp; with_reducible rfl)⟩) (Ys.cons rfl (Or.inl ⟨by rfl, fun W1 hW1 => by first | rfl | (go_simp; done) | (go_simp; with_reducible rfl)⟩) (Ys.cons rfl (Or.inl ⟨by rfl, fun W1 hW1 => by have c := (HS.out.1.call hW1).cellv (i := 1) (v := .int .i64 room) rfl; go_simp⟩) (Ys.nil)))))) (S0) (by rfl) (by rfl) ?_
  refine anyG_one (k := 1) (by kernel_rfl) rfl (by rfl) (fun Q2 hQ2 => ?_); go_wp2_with (go_at_call 20; refine (HC.out _ (HS.out.call S0)).mono ?_; rintro e v3 ⟨A3, n3, c3, rfl, ho3, hb3⟩); refine hQ2 _ _ (fun _ => S0.trans (hb3.mono S0.size)) ?_; clear hQ2 Q2
  have S3 := S0.trans (hb3.mono S0.size)
  refine anyG_takes (is := [6]) (vs := [_]) (m := 2) (listed2 := #[true, true, true, true, true, true, true, false, false]) (a2 := ⟨#[_, _, _, _, _, _, _, _, _, _, _, _, _], _⟩) (by kernel_rfl) (fun j hj => by simp at hj) (by kernel_rfl) (fun _ _ _ _ _ h => h) (Ys.cons rfl (Or.inl ⟨by rfl, fun W1 hW1 => by first | rfl | (go_simp; done) | (go_simp; with_reducible rfl)⟩) (Ys.nil)) (S3) (by rfl) (by rfl) ?_
  refine anyG_one (k := 7) (by kernel_rfl) rfl (by rfl) (fun Q2 hQ2 => ?_)
  have nG := new_at (S := S3) (#[.slice A3 n3 c3, .int .i64 room]) 94
  obtain ⟨G, hG, bG, lG⟩ := nG
  go_wp2_with fail
  refine hQ2 _ _ (fun _ => S3.alloc S3.size _) ?_
  clear hQ2 Q2
  (try simp only [hG])
  clear hG
  have SG := S3.alloc S3.size (.cells (#[.slice A3 n3 c3, .int .i64 room]) 94)
  refine anyG_takes (is := [8]) (vs := [_]) (m := 0) (listed2 := #[true, true, true, true, true, true, true, true, true]) (a2 := ⟨#[_, _, _, _, _, _, _, _, _, _, _, _, _], _⟩) (by kernel_rfl) (fun j hj => by simp at hj) (by kernel_rfl) (fun _ _ _ _ _ h => h) (Ys.cons rfl (Or.inl ⟨by rfl, fun W1 hW1 => by first | rfl | (go_simp; done) | (go_simp; with_reducible rfl)⟩) (Ys.nil)) (SG) (by rfl) (by rfl) ?_
  refine anyG_done (by kernel_rfl) ?_ _
  have HO := Lib.hid (ho3.alloc (.cells #[.slice A3 n3 c3, .int .i64 room] 94))
  have HG := Lib.hid bG
  have HE := Lib.hid SG
  have HL := Lib.hid lG
  clear ho3 hb3
  go_wp2
  go_ret
  have e0 : w0 = w := HW.out
  subst e0
  exact ⟨G, _, rfl, ⟨HG.out, HO.out.mono (Nat.zero_le _), HO.out.ne_blk HG.out (by decide)⟩, fun k hk => by
    rcases hk with rfl | hk
    · exact HL.out
    · exact HO.out.from_ k hk, HE.out⟩
def SerPost (g : Nat) (v : Value) (l : List Smp) (room : Int) (w : World) (ret : Value) (e : Ending) (w' : World) : Prop := ∃ v', e = .returned ret ∧ SerAt w' g v' l room ∧ Upd (foot g v) w w' ∧ ∀ k, foot g v' k → foot g v k ∨ w.heap.size ≤ k
theorem series_Trim_nil (cut : Int) (w : World) : Calls Try.prog 98 #[.pointer none, .int .i64 cut] w fun e w' => e = .returned (.int .i64 0) ∧ w = w' := by
  go_enter Try.func98, Try.ntmps98
  go_wp2
  go_ret
  exact ⟨rfl, rfl⟩
theorem SerAt.put {w w' : World} {g : Nat} {v v' : Value} {l l' : List Smp} {room : Int} (h : SerAt w g v l room) (hu : Upd (fun k => v.ownBlock = some k) w w') (ho : OwnS w' 0 v' l') (hw : v'.ownBlock = v.ownBlock ∨ ∃ k, v'.ownBlock = some k ∧ w.heap.size ≤ k) :
    SerAt (w'.setCell ⟨g, 0, none⟩ v') g v' l' room ∧ Upd (foot g v) w (w'.setCell ⟨g, 0, none⟩ v') ∧ (∀ k, foot g v' k → foot g v k ∨ w.heap.size ≤ k) ∧ w'.cell? ⟨g, 0, none⟩ = some v ∧ w'.frozen? ⟨g, 0, none⟩ = false := by
  have hne : v'.ownBlock ≠ some g := by
    rcases hw with e | ⟨k, e, hk⟩
    · rw [e]; exact h.2.2
    · rw [e]; intro e2; have := h.1.lt; cases e2; omega
  have hb : Blk w' g 94 #[v, .int .i64 room] := h.1.upd hu (fun e => h.2.2 e)
  refine ⟨⟨hb.set_ 0 v', ho.far (fun k hk e => hne (by rw [hk, e])) _, hne⟩, (hu.mono (fun k hk => .inr hk)).setCell (.inl (.inl rfl)) _, ?_, hb.cellv rfl, hb.frozen _⟩
  rintro k (rfl | hk)
  · exact .inl (.inl rfl)
  · rcases hw with e | ⟨j, e, hj⟩
    · exact .inl (.inr (by rw [← e]; exact hk))
    · rw [e] at hk; cases hk; exact .inr hj
theorem series_Trim (g : Nat) (v : Value) (l : List Smp) (room cut : Int) (w : World) (h : SerAt w g v l room) (hs : Srt l) (hn : l.length ≤ 100000) :
    Calls Try.prog 98 #[.pointer (some ⟨g, 0, none⟩), .int .i64 cut] w (SerPost g v (froms l cut) room w (.int .i64 (placeq l cut))) := by
  have HS := Lib.hid h
  have HP := Lib.hid (series_place g v l room cut w h hs hn)
  have HK := Lib.hid (trim_drop hs cut)
  have HLe := Lib.hid (place_le l cut)
  have HN := Lib.hid hn
  obtain ⟨A, n, c, rfl, hnl, hsl⟩ := h.2.1.shape smp_len
  generalize placeq l cut = K at *
  have hK : K ≤ 100000 := by have := HLe.out; omega
  clear h hs hn hnl hsl
  go_enter Try.func98, Try.ntmps98
  go_wp2_with fail
  refine HP.out.mono ?_
  rintro e w1 ⟨rfl, hb1⟩
  have S1 := Lib.hid (HS.out.call hb1)
  have U1 := Lib.hid hb1
  have c3 := (HS.out.call hb1).1.cellv (i := 0) (v := .slice A n c) rfl
  clear hb1
  go_wp2_with fail
  refine (slices_Delete _ l K _ S1.out.2.1 HN.out HLe.out).mono ?_
  rintro e w2 ⟨v', rfl, ho, hv, hu⟩
  obtain ⟨A', n', c', rfl, -, -⟩ := ho.shape smp_len
  obtain ⟨p1, p2, p3, p4, p5⟩ := S1.out.put hu ho (.inl hv)
  have P1 := Lib.hid p1
  have P2 := Lib.hid p2
  have P3 := Lib.hid p3
  clear ho hv hu p1 p2 p3 c3
  go_wp2
  go_ret
  exact ⟨_, rfl, by rw [← HK.out]; exact P1.out, (Upd.of_below U1.out).trans P2.out (fun k hk => .inl hk), fun k hk => (P3.out k hk).imp id (fun h => Nat.le_trans U1.out.size h)⟩
def lastq (l : List Smp) : Smp := l.getLast?.getD ⟨0, 0⟩
theorem series_Last_nil (w : World) : Calls Try.prog 77 #[.pointer none] w fun e w' => e = .returned (.tuple #[.agg #[.int .i64 0, .int .i64 0], .bool false]) ∧ Below w.heap.size w w' := by
  go_enter Try.func77, Try.ntmps77
  go_wp2_with (first | (go_at_call 102; refine (series_Len_nil _).mono ?_; rintro e w1 ⟨rfl, rfl⟩))
  refine bodyPost_ret (results_row_tmp rfl _ _ w.heap.size _ _ _ rfl (Blk.new w _ _) Try.underlying34 rfl (by kernel_rfl)) rfl ⟨rfl, by go_grown⟩
end Go.Proofs.Ytfeccjjheiillaa
