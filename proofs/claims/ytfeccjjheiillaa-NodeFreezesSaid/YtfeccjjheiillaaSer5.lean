/- Package series: Put of a new tick. (fast region) -/
import Derived.Test.YtfeccjjheiillaaSer4
namespace Go.Proofs.Ytfeccjjheiillaa
open Go.RowKit
set_option linter.unusedSimpArgs false
set_option linter.unusedVariables false
set_option maxHeartbeats 4000000
set_option maxRecDepth 100000
theorem SerAt.drewN_ {w : World} {g : Nat} {v : Value} {l : List Smp} {room : Int} (h : SerAt w g v l room) (n : Nat) : SerAt (w.drewN n) g v l room := h
def insq (l : List Smp) (room tick value : Int) : List Smp := if room.toNat < l.length + 1 then (l.take (placeq l tick) ++ ⟨tick, value⟩ :: l.drop (placeq l tick)).drop 1 else l.take (placeq l tick) ++ ⟨tick, value⟩ :: l.drop (placeq l tick)
theorem series_Put_ins (g : Nat) (v : Value) (l : List Smp) (room tick value : Int) (w : World) (h : SerAt w g v l room) (hs : Srt l) (hn : l.length ≤ 10000) (he : serErr tick value = 0) (hr : 1 ≤ room) (hlr : l.length ≤ room.toNat)
    (hy : ∀ y, l[placeq l tick]? = some y → y.tick ≠ tick) :
    Calls Try.prog 47 #[.pointer (some ⟨g, 0, none⟩), .int .i64 tick, .int .i64 value] w (SerPost g v (insq l room tick value) room w (.int .i64 0)) := by
  have HC := Lib.hid (series_Right tick value w)
  rw [he] at HC
  have HS := Lib.hid h
  have HP := Lib.hid (series_place g v l room tick w h hs (by omega))
  have hKl := place_le l tick
  have hlen : (l.take (placeq l tick) ++ (⟨tick, value⟩ : Smp) :: l.drop (placeq l tick)).length = l.length + 1 := by simp; omega
  obtain ⟨A, n, c, rfl, hnl, hsl⟩ := h.2.1.shape smp_len
  have hfd : ∀ W, SerAt W g (.slice A n c) l room → W.cell? ⟨g, 0, none⟩ = some (.slice A n c) ∧ W.cell? ⟨g, 1, none⟩ = some (.int .i64 room) := fun W hW => ⟨hW.1.cellv rfl, hW.1.cellv rfl⟩
  have HF := Lib.hid hfd
  have d1 : (room == 0) = false := by simp; omega
  have HL := Lib.hid hnl
  have HN := Lib.hid hn
  have HKl := Lib.hid hKl
  have HR := Lib.hid hlr
  have HLen := Lib.hid hlen
  have HI := Lib.hid (show insq l room tick value = if room.toNat < l.length + 1 then (l.take (placeq l tick) ++ (⟨tick, value⟩ : Smp) :: l.drop (placeq l tick)).drop 1 else l.take (placeq l tick) ++ (⟨tick, value⟩ : Smp) :: l.drop (placeq l tick) from rfl)
  have HY : Hid (placeq l tick < n → ∃ (b : Nat) (y : Smp), A = some ⟨b, 0, none⟩ ∧ y.tick ≠ tick ∧ ∀ W, SerAt W g (.slice A n c) l room → W.cell? ⟨b, placeq l tick * 2, none⟩ = some (.int .i64 y.tick)) := fun hk => by
    obtain ⟨b, off, y, rfl, hy', hb, u0, u1⟩ := SmpsAre.at_ hsl hk
    have h0 : off = 0 := by
      rcases h.2.1.2 with ⟨e, _⟩ | ⟨b', cap, cur, e, _⟩
      · cases e
      · cases e; rfl
    subst h0
    refine ⟨b, y, rfl, hy y hy', fun W hW => ?_⟩
    obtain ⟨A2, n2, c2, he2, hn2, hs2⟩ := hW.2.1.shape smp_len
    cases he2
    obtain ⟨b2, off2, y2, hA2, hy2, _, k0, _⟩ := SmpsAre.at_ hs2 hk
    cases hA2
    rw [hy'] at hy2
    cases hy2
    rw [Nat.zero_add] at k0
    exact k0
  have hnc : n ≤ c := hsl.2.1
  have hcm : c ≤ 9223372036854775807 := by have := hsl.2.2.1; unfold maxLen at this; omega
  have hn2 : n ≤ 10000 := by omega
  have hg := h.1.lt
  have c3 := (hfd w h).1
  have c4 := (hfd w h).2
  clear h hs hn he hy hsl hnl hKl hlr hlen hfd
  generalize placeq l tick = K at *
  generalize insq l room tick value = RES at *
  generalize hLq : l.take K ++ (⟨tick, value⟩ : Smp) :: l.drop K = L at *
  have HLq := Lib.hid hLq
  clear hLq
  go_enter Try.func47, Try.ntmps47
  go_wp2_with (go_at_call 82; refine HC.out.mono ?_; rintro e w1 ⟨rfl, rfl⟩)
  clear c3 c4
  refine HP.out.mono ?_
  rintro e w1 ⟨rfl, hb1⟩
  have S2 := Lib.hid ((HS.out.call hb1).call (w' := w1.alloc (.cells #[.int .i64 tick, .int .i64 value] 34)) ((Below.refl _ w1).alloc (Nat.le_refl _) _))
  have U2 := Lib.hid (hb1.alloc hb1.size (.cells #[.int .i64 tick, .int .i64 value] 34))
  have X2 := Lib.hid ((HS.out.call hb1).2.1.ne_new (Nat.le_refl _))
  have X1 := Lib.hid (Blk.new w1 34 #[.int .i64 tick, .int .i64 value])
  clear hb1
  have c3 := (HF.out _ S2.out).1
  by_cases hlt : K < n
  rotate_left
  have d0 : decide ((K : Int) < (n : Int)) = false := by simp; omega
  focus (go_upto_region 10 with (fail))
  clear d0 hlt c3
  rotate_left
  obtain ⟨b, y, rfl, hyt, hcl⟩ := HY.out hlt
  have t0 := hcl _ S2.out
  have d0 : decide ((K : Int) < (n : Int)) = true := by simp; omega
  have d2 : (y.tick == tick) = false := by simpa using hyt
  have hk1 : (K : Int) < (n : Int) := by omega
  clear hcl hyt
  focus (go_upto_region 10 with (fail))
  clear t0 d0 hlt d2 hk1 c3
  generalize (some (⟨b, 0, none⟩ : Addr)) = A at *
  all_goals
    clear HY HC HP hnc d1
    generalize w1.alloc (.cells #[.int .i64 tick, .int .i64 value] 34) = w2 at *
    generalize w1.heap.size = gx at *
    refine wp_region_any (by kernel_rfl) ?_; change wpAny _ _ _ _ _ _ _ (World.drew w2); refine any_of_anyG (late := fun j => [11].contains j) (S := fun wS => Upd (fun k => (Value.slice A n c).ownBlock = some k) w2 wS) _ _ _ _ ?_
    have S0 := (Upd.refl (fun k => (Value.slice A n c).ownBlock = some k) w2).drew
    refine anyG_takes (is := [0, 1, 2, 3, 4]) (vs := [_, _, _, _, .slice A n c]) (m := 7) (listed2 := #[true, true, true, true, true, false, false, false, false, false, false, false]) (a2 := ⟨#[_, _, _, _, _, _, _, _, _, _, _, _, _, _, _, _, _, _, _, _, _, _, _, _, _, _, _, _, _, _, _, _, _, _, _, _, _, _, _, _, _, _, _, _, _, _, _, _, _, _, _, _, _, _, _, _, _, _, _, _, _, _, _, _, _, _, _, _, _, _, _, _, _, _, _, _, _, _, _, _, _, _, _, _, _, _], _⟩) (by kernel_rfl) (fun j hj => by first | (simp at hj; done) | (simp at hj; simp; omega)) (by kernel_rfl) (fun _ _ _ _ _ h => h) (Ys.cons rfl (Or.inl ⟨by rfl, fun W1 hW1 => by first | rfl | (go_simp; done) | (go_simp; with_reducible rfl)⟩) (Ys.cons rfl (Or.inl ⟨by rfl, fun W1 hW1 => by first | rfl | (go_simp; done) | (go_simp; with_reducible rfl)⟩) (Ys.cons rfl (Or.inl ⟨by rfl, fun W1 hW1 => by first | rfl | (go_simp; done) | (go_simp; with_reducible rfl)⟩) (Ys.cons rfl (Or.inl ⟨by rfl, fun W1 hW1 => by first | rfl | (go_simp; done) | (go_simp; with_reducible rfl)⟩) (Ys.cons rfl (Or.inl ⟨by rfl, fun W1 hW1 => by have c := (S2.out.1.upd hW1 (fun e => S2.out.2.2 e)).cellv (i := 0) (v := .slice A n c) rfl; go_simp⟩) (Ys.nil)))))) (S0) (by rfl) (by rfl) ?_
    refine anyG_takes (is := [5, 6]) (vs := [_, _]) (m := 5) (listed2 := #[true, true, true, true, true, true, true, false, false, false, false, false]) (a2 := ⟨#[_, _, _, _, _, _, _, _, _, _, _, _, _, _, _, _, _, _, _, _, _, _, _, _, _, _, _, _, _, _, _, _, _, _, _, _, _, _, _, _, _, _, _, _, _, _, _, _, _, _, _, _, _, _, _, _, _, _, _, _, _, _, _, _, _, _, _, _, _, _, _, _, _, _, _, _, _, _, _, _, _, _, _, _, _, _], _⟩) (by kernel_rfl) (fun j hj => by first | (simp at hj; done) | (simp at hj; simp; omega)) (by kernel_rfl) (fun _ _ _ _ _ h => h) (Ys.cons rfl (Or.inl ⟨by rfl, fun W1 hW1 => by first | rfl | (go_simp; done) | (go_simp; with_reducible rfl)⟩) (Ys.cons rfl (Or.inl ⟨by rfl, fun W1 hW1 => exec_load (ty := 34) (x := .tmp 9) rfl rfl (run_loadAt_blk _ _ _ _ _ _ (X1.out.upd hW1 (fun e => X2.out e)) Try.underlying34 rfl (by first | kernel_rfl | exact info_num _))⟩) (Ys.nil))) (S0) (by rfl) (by rfl) ?_
    refine anyG_one (k := 7) (by kernel_rfl) rfl (by rfl) (fun Q2 hQ2 => ?_)
    have nG := new_atU (S := S0) (#[.int .i64 tick, .int .i64 value]) 34
    obtain ⟨G, hG, bG, lG⟩ := nG
    go_wp2_with fail
    refine hQ2 _ _ (fun _ => S0.alloc _) ?_
    clear hQ2 Q2
    (try simp only [hG])
    clear hG
    have SG := S0.alloc (.cells (#[.int .i64 tick, .int .i64 value]) 34)
    refine anyG_one (k := 8) (by kernel_rfl) rfl (by rfl) (fun Q2 hQ2 => ?_); go_wp2_with (go_at_call 84; refine (slices_Insert _ l K G ⟨tick, value⟩ _ (S2.out.2.1.drew_.alloc _) (by have := HN.out; omega) HKl.out (Nat.zero_le _) bG (S2.out.2.1.ne_new lG)).mono ?_; rintro e w3 ⟨v', rfl, ho3, hw3, hu3⟩; obtain ⟨A', n', c', rfl, hn', -⟩ := ho3.shape smp_len; have HN' := Lib.hid hn'; clear hn'; obtain ⟨p1, p2, p3, p4, p5⟩ := SerAt.put (S2.out.call ((Below.refl _ _).drew.alloc (Nat.le_refl _) _)) hu3 ho3 (hw3.imp id (fun e => ⟨_, e, Nat.le_refl _⟩)); have P1 := Lib.hid p1; have P2 := Lib.hid p2; have P3 := Lib.hid p3; clear p1 p2 p3); refine hQ2 _ _ (fun _ => SG.trans hu3 (fun k hk => .inl hk)) ?_; clear hQ2 Q2
    have S3 := SG.trans hu3 (fun k hk => .inl hk)
    refine anyG_one (k := 9) (by kernel_rfl) rfl (by rfl) (fun Q2 hQ2 => ?_); go_wp2_with fail; refine hQ2 _ _ (fun _ => S3) ?_; clear hQ2 Q2
    refine anyG_takes (is := [10]) (vs := [_]) (m := 1) (listed2 := #[true, true, true, true, true, true, true, true, true, true, true, false]) (a2 := ⟨#[_, _, _, _, _, _, _, _, _, _, _, _, _, _, _, _, _, _, _, _, _, _, _, _, _, _, _, _, _, _, _, _, _, _, _, _, _, _, _, _, _, _, _, _, _, _, _, _, _, _, _, _, _, _, _, _, _, _, _, _, _, _, _, _, _, _, _, _, _, _, _, _, _, _, _, _, _, _, _, _, _, _, _, _, _, _], _⟩) (by kernel_rfl) (fun j hj => by first | (simp at hj; done) | (simp at hj; simp; omega)) (by kernel_rfl) (fun _ _ _ _ _ h => h) (Ys.cons rfl (Or.inl ⟨by rfl, fun W1 hW1 => by first | rfl | (go_simp; done) | (go_simp; with_reducible rfl)⟩) (Ys.nil)) (S3) (by rfl) (by rfl) ?_
    refine anyG_of_any _ _ _ _ (by kernel_rfl) ?_
    refine any_one (k := 11) (by kernel_rfl) rfl (by rfl) (fun Q2 hQ2 => ?_); go_wp2_with fail; (try refine hQ2 _ _ ?_); (try clear hQ2 Q2)
    refine wpAny_done (by kernel_rfl) ?_ _
    have hq : n' = l.length + 1 := by rw [HN'.out, HLq.out]; exact HLen.out
    have Q1 := Lib.hid (HLq.out ▸ P1.out)
    have Q2 := Lib.hid ((Upd.of_below (S := foot g (Value.slice A n c)) (U2.out.trans (((Below.refl _ w2).drew.alloc (Nat.le_refl _) (.cells #[.int .i64 tick, .int .i64 value] 34)).mono U2.out.size))).trans P2.out (fun k hk => .inl hk))
    have Q3 := Lib.hid (fun k hk => (P3.out k hk).imp id (fun h => Nat.le_trans (Nat.le_trans U2.out.size ((Below.refl w2.heap.size w2).drew.alloc (Nat.le_refl _) (.cells #[.int .i64 tick, .int .i64 value] 34)).size) h))
    have e0 := Q1.out.1.cellv (i := 0) (v := .slice A' n' c') rfl
    have e1 := Q1.out.1.cellv (i := 1) (v := .int .i64 room) rfl
    have ef := Q1.out.1.frozen 0
    clear P1 P2 P3 hu3 ho3 hw3 HN' p4 p5 S3 SG bG lG S0 HF HS S2 U2 X1 X2 HLq
    generalize w3.setCell ⟨g, 0, none⟩ (.slice A' n' c') = w5 at *
    have hn' : n' ≤ 10001 := by have := HN.out; omega
    by_cases hov : room.toNat < l.length + 1
    · have HE := Lib.hid (show RES = L.drop 1 by rw [HI.out, if_pos hov])
      have d1 : decide (room < (n' : Int)) = true := by simp; omega
      have hov2 : room < (n' : Int) := by omega
      have H1 := Lib.hid (show 1 ≤ L.length by rw [HLen.out]; omega)
      have HL2 := Lib.hid (show L.length ≤ 100000 by rw [HLen.out]; have := HN.out; omega)
      clear hq hov HN HR HL HLen HI
      go_wp2
      go_quiet (fail)
      go_wp2_with fail
      refine (slices_Delete (base := 0) (.slice A' n' c') L 1 _ (Own.drewN_ Q1.out.2.1 _) HL2.out H1.out).mono ?_
      rintro e w6 ⟨v6, rfl, ho6, hv6, hu6⟩
      obtain ⟨A6, n6, c6, rfl, -, -⟩ := ho6.shape smp_len
      obtain ⟨p1, p2, p3, p4, p5⟩ := SerAt.put (SerAt.drewN_ Q1.out _) hu6 ho6 (.inl hv6)
      have P1 := Lib.hid p1
      have P2 := Lib.hid p2
      have P3 := Lib.hid p3
      clear p1 p2 p3 ho6 hv6 hu6 e0 e1 ef
      go_wp2
      go_ret
      refine ⟨_, rfl, HE.out ▸ P1.out, (Upd.drewN_ Q2.out _).trans (P2.out) ?_, ?_⟩
      · exact fun k hk => Q3.out k hk
      · exact fun k hk => (P3.out k hk).elim (fun h => Q3.out k h) (fun h => .inr (Nat.le_trans Q2.out.size h))
    · have HE := Lib.hid (show RES = L by rw [HI.out, if_neg hov])
      have d1 : decide (room < (n' : Int)) = false := by simp; omega
      have hov2 : ¬ room < (n' : Int) := by omega
      clear hq hov HN HR HL HLen HI
      go_wp2
      go_quiet (fail)
      go_wp2
      go_ret
      exact ⟨_, rfl, SerAt.drewN_ (HE.out ▸ Q1.out) _, Upd.drewN_ Q2.out _, fun k hk => Q3.out k hk⟩
end Go.Proofs.Ytfeccjjheiillaa
