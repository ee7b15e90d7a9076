/- Several texts in one. -/
import Derived.Test.YtjodpffdlggjgaaGreatSer4
import Derived.Test.YtjodpffdlggjgaaGreatSlib3
import Derived.Test.YtjodpffdlggjgaaGreatSerP
import Derived.BigQuiet
import Derived.Test.YtjodpffdlggjgaaGreatRing2
import Derived.RangeFuncNested
import Derived.RangeFuncBound
import Derived.RangeFuncCalls
import Derived.RangeFuncLeaves
import Derived.Shelf.Abstract
import Derived.Shelf.RegionOpen
import Derived.OwnWalkIn
import Derived.TacticsInMore
import Derived.LoopNIn
import Derived.LoopIn
import Derived.Maps.AppendAt
import Derived.Test.YtjodpffdlggjgaaGreatRing3
/- Package series: Put of a new tick. (fast region) -/
namespace Go.Proofs.YtjodpffdlggjgaaGreat
open Go.RowKit
set_option linter.unusedSimpArgs false
set_option linter.unusedVariables false
set_option maxHeartbeats 4000000
set_option maxRecDepth 100000
theorem SerAt.drewN_ {w : World} {g : Nat} {v : Value} {l : List Smp} {room : Int} (h : SerAt w g v l room) (n : Nat) : SerAt (w.drewN n) g v l room := h
def insq (l : List Smp) (room tick value : Int) : List Smp := if room.toNat < l.length + 1 then (l.take (placeq l tick) ++ ⟨tick, value⟩ :: l.drop (placeq l tick)).drop 1 else l.take (placeq l tick) ++ ⟨tick, value⟩ :: l.drop (placeq l tick)
theorem series_Put_ins (g : Nat) (v : Value) (l : List Smp) (room tick value : Int) (w : World) (h : SerAt w g v l room) (hs : Srt l) (hn : l.length ≤ 10000) (he : serErr tick value = 0) (hr : 1 ≤ room) (hlr : l.length ≤ room.toNat)
    (hy : ∀ y, l[placeq l tick]? = some y → y.tick ≠ tick) :
    Calls Tryz.prog 57 #[.pointer (some ⟨g, 0, none⟩), .int .i64 tick, .int .i64 value] w (SerPost g v (insq l room tick value) room w (.int .i64 0)) := by
  have HC := Lib.hid (series_Right tick value w)
  rw [he] at HC
  have HS := Lib.hid h
  have HP := Lib.hid (series_place g v l room tick w h hs (by omega))
  have hKl := place_le l tick
  have hlen : (l.take (placeq l tick) ++ (⟨tick, value⟩ : Smp) :: l.drop (placeq l tick)).length = l.length + 1 := by simp; omega
  obtain ⟨A, n, c, rfl, hnl, hsl⟩ := h.2.1.shape smp_len
  have hfd : ∀ W, SerAt W g (.slice A n c) l room → W.cell? ⟨g, 0, none⟩ = some (.slice A n c) ∧ W.cell? ⟨g, 1, none⟩ = some (.int .i64 room) := fun W hW => ⟨hW.1.cellv rfl, hW.1.cellv rfl⟩
  have HF := Lib.hid hfd
  have d1 : (room == 0) = false := by simp; omega
  have HL := Lib.hid hnl
  have HN := Lib.hid hn
  have HKl := Lib.hid hKl
  have HR := Lib.hid hlr
  have HLen := Lib.hid hlen
  have HI := Lib.hid (show insq l room tick value = if room.toNat < l.length + 1 then (l.take (placeq l tick) ++ (⟨tick, value⟩ : Smp) :: l.drop (placeq l tick)).drop 1 else l.take (placeq l tick) ++ (⟨tick, value⟩ : Smp) :: l.drop (placeq l tick) from rfl)
  have HY : Hid (placeq l tick < n → ∃ (b : Nat) (y : Smp), A = some ⟨b, 0, none⟩ ∧ y.tick ≠ tick ∧ ∀ W, SerAt W g (.slice A n c) l room → W.cell? ⟨b, placeq l tick * 2, none⟩ = some (.int .i64 y.tick)) := fun hk => by
    obtain ⟨b, off, y, rfl, hy', hb, u0, u1⟩ := SmpsAre.at_ hsl hk
    have h0 : off = 0 := by
      rcases h.2.1.2 with ⟨e, _⟩ | ⟨b', cap, cur, e, _⟩
      · cases e
      · cases e; rfl
    subst h0
    refine ⟨b, y, rfl, hy y hy', fun W hW => ?_⟩
    obtain ⟨A2, n2, c2, he2, hn2, hs2⟩ := hW.2.1.shape smp_len
    cases he2
    obtain ⟨b2, off2, y2, hA2, hy2, _, k0, _⟩ := SmpsAre.at_ hs2 hk
    cases hA2
    rw [hy'] at hy2
    cases hy2
    rw [Nat.zero_add] at k0
    exact k0
  have hnc : n ≤ c := hsl.2.1
  have hcm : c ≤ 9223372036854775807 := by have := hsl.2.2.1; unfold maxLen at this; omega
  have hn2 : n ≤ 10000 := by omega
  have hg := h.1.lt
  have c3 := (hfd w h).1
  have c4 := (hfd w h).2
  clear h hs hn he hy hsl hnl hKl hlr hlen hfd
  generalize placeq l tick = K at *
  generalize insq l room tick value = RES at *
  generalize hLq : l.take K ++ (⟨tick, value⟩ : Smp) :: l.drop K = L at *
  have HLq := Lib.hid hLq
  clear hLq
  go_enter Tryz.func57, Tryz.ntmps57
  go_wp2_with (go_at_call 80; refine HC.out.mono ?_; rintro e w1 ⟨rfl, rfl⟩)
  clear c3 c4
  refine HP.out.mono ?_
  rintro e w1 ⟨rfl, hb1⟩
  have S2 := Lib.hid ((HS.out.call hb1).call (w' := w1.alloc (.cells #[.int .i64 tick, .int .i64 value] 75)) ((Below.refl _ w1).alloc (Nat.le_refl _) _))
  have U2 := Lib.hid (hb1.alloc hb1.size (.cells #[.int .i64 tick, .int .i64 value] 75))
  have X2 := Lib.hid ((HS.out.call hb1).2.1.ne_new (Nat.le_refl _))
  have X1 := Lib.hid (Blk.new w1 75 #[.int .i64 tick, .int .i64 value])
  clear hb1
  have c3 := (HF.out _ S2.out).1
  by_cases hlt : K < n
  rotate_left
  have d0 : decide ((K : Int) < (n : Int)) = false := by simp; omega
  focus (go_upto_region 10 with (fail))
  clear d0 hlt c3
  rotate_left
  obtain ⟨b, y, rfl, hyt, hcl⟩ := HY.out hlt
  have t0 := hcl _ S2.out
  have d0 : decide ((K : Int) < (n : Int)) = true := by simp; omega
  have d2 : (y.tick == tick) = false := by simpa using hyt
  have hk1 : (K : Int) < (n : Int) := by omega
  clear hcl hyt
  focus (go_upto_region 10 with (fail))
  clear t0 d0 hlt d2 hk1 c3
  generalize (some (⟨b, 0, none⟩ : Addr)) = A at *
  all_goals
    clear HY HC HP hnc d1
    generalize w1.alloc (.cells #[.int .i64 tick, .int .i64 value] 75) = w2 at *
    generalize w1.heap.size = gx at *
    refine wp_region_any (by kernel_rfl) ?_; change wpAny _ _ _ _ _ _ _ (World.drew w2); refine any_of_anyG (late := fun j => [11].contains j) (S := fun wS => Upd (fun k => (Value.slice A n c).ownBlock = some k) w2 wS) _ _ _ _ ?_
    have S0 := (Upd.refl (fun k => (Value.slice A n c).ownBlock = some k) w2).drew
    refine anyG_takes (is := [0, 1, 2, 3, 4]) (vs := [_, _, _, _, .slice A n c]) (m := 7) (listed2 := #[true, true, true, true, true, false, false, false, false, false, false, false]) (a2 := ⟨#[_, _, _, _, _, _, _, _, _, _, _, _, _, _, _, _, _, _, _, _, _, _, _, _, _, _, _, _, _, _, _, _, _, _, _, _, _, _, _, _, _, _, _, _, _, _, _, _, _, _, _, _, _, _, _, _, _, _, _, _, _, _, _, _, _, _, _, _, _, _, _, _, _, _, _, _, _, _, _, _, _, _, _, _, _, _], _⟩) (by kernel_rfl) (fun j hj => by first | (simp at hj; done) | (simp at hj; simp; omega)) (by kernel_rfl) (fun _ _ _ _ _ h => h) (Ys.cons rfl (Or.inl ⟨by rfl, fun W1 hW1 => by first | rfl | (go_simp; done) | (go_simp; with_reducible rfl)⟩) (Ys.cons rfl (Or.inl ⟨by rfl, fun W1 hW1 => by first | rfl | (go_simp; done) | (go_simp; with_reducible rfl)⟩) (Ys.cons rfl (Or.inl ⟨by rfl, fun W1 hW1 => by first | rfl | (go_simp; done) | (go_simp; with_reducible rfl)⟩) (Ys.cons rfl (Or.inl ⟨by rfl, fun W1 hW1 => by first | rfl | (go_simp; done) | (go_simp; with_reducible rfl)⟩) (Ys.cons rfl (Or.inl ⟨by rfl, fun W1 hW1 => by have c := (S2.out.1.upd hW1 (fun e => S2.out.2.2 e)).cellv (i := 0) (v := .slice A n c) rfl; go_simp⟩) (Ys.nil)))))) (S0) (by rfl) (by rfl) ?_
    refine anyG_takes (is := [5, 6]) (vs := [_, _]) (m := 5) (listed2 := #[true, true, true, true, true, true, true, false, false, false, false, false]) (a2 := ⟨#[_, _, _, _, _, _, _, _, _, _, _, _, _, _, _, _, _, _, _, _, _, _, _, _, _, _, _, _, _, _, _, _, _, _, _, _, _, _, _, _, _, _, _, _, _, _, _, _, _, _, _, _, _, _, _, _, _, _, _, _, _, _, _, _, _, _, _, _, _, _, _, _, _, _, _, _, _, _, _, _, _, _, _, _, _, _], _⟩) (by kernel_rfl) (fun j hj => by first | (simp at hj; done) | (simp at hj; simp; omega)) (by kernel_rfl) (fun _ _ _ _ _ h => h) (Ys.cons rfl (Or.inl ⟨by rfl, fun W1 hW1 => by first | rfl | (go_simp; done) | (go_simp; with_reducible rfl)⟩) (Ys.cons rfl (Or.inl ⟨by rfl, fun W1 hW1 => exec_load (ty := 75) (x := .tmp 9) rfl rfl (run_loadAt_blk _ _ _ _ _ _ (X1.out.upd hW1 (fun e => X2.out e)) Tryz.underlying75 rfl (by first | kernel_rfl | exact info_num _))⟩) (Ys.nil))) (S0) (by rfl) (by rfl) ?_
    refine anyG_one (k := 7) (by kernel_rfl) rfl (by rfl) (fun Q2 hQ2 => ?_)
    have nG := new_atU (S := S0) (#[.int .i64 tick, .int .i64 value]) 75
    obtain ⟨G, hG, bG, lG⟩ := nG
    go_wp2_with fail
    refine hQ2 _ _ (fun _ => S0.alloc _) ?_
    clear hQ2 Q2
    (try simp only [hG])
    clear hG
    have SG := S0.alloc (.cells (#[.int .i64 tick, .int .i64 value]) 75)
    refine anyG_one (k := 8) (by kernel_rfl) rfl (by rfl) (fun Q2 hQ2 => ?_); go_wp2_with (go_at_call 82; refine (slices_Insert _ l K G ⟨tick, value⟩ _ (S2.out.2.1.drew_.alloc _) (by have := HN.out; omega) HKl.out (Nat.zero_le _) bG (S2.out.2.1.ne_new lG)).mono ?_; rintro e w3 ⟨v', rfl, ho3, hw3, hu3⟩; obtain ⟨A', n', c', rfl, hn', -⟩ := ho3.shape smp_len; have HN' := Lib.hid hn'; clear hn'; obtain ⟨p1, p2, p3, p4, p5⟩ := SerAt.put (S2.out.call ((Below.refl _ _).drew.alloc (Nat.le_refl _) _)) hu3 ho3 (hw3.imp id (fun e => ⟨_, e, Nat.le_refl _⟩)); have P1 := Lib.hid p1; have P2 := Lib.hid p2; have P3 := Lib.hid p3; clear p1 p2 p3); refine hQ2 _ _ (fun _ => SG.trans hu3 (fun k hk => .inl hk)) ?_; clear hQ2 Q2
    have S3 := SG.trans hu3 (fun k hk => .inl hk)
    refine anyG_one (k := 9) (by kernel_rfl) rfl (by rfl) (fun Q2 hQ2 => ?_); go_wp2_with fail; refine hQ2 _ _ (fun _ => S3) ?_; clear hQ2 Q2
    refine anyG_takes (is := [10]) (vs := [_]) (m := 1) (listed2 := #[true, true, true, true, true, true, true, true, true, true, true, false]) (a2 := ⟨#[_, _, _, _, _, _, _, _, _, _, _, _, _, _, _, _, _, _, _, _, _, _, _, _, _, _, _, _, _, _, _, _, _, _, _, _, _, _, _, _, _, _, _, _, _, _, _, _, _, _, _, _, _, _, _, _, _, _, _, _, _, _, _, _, _, _, _, _, _, _, _, _, _, _, _, _, _, _, _, _, _, _, _, _, _, _], _⟩) (by kernel_rfl) (fun j hj => by first | (simp at hj; done) | (simp at hj; simp; omega)) (by kernel_rfl) (fun _ _ _ _ _ h => h) (Ys.cons rfl (Or.inl ⟨by rfl, fun W1 hW1 => by first | rfl | (go_simp; done) | (go_simp; with_reducible rfl)⟩) (Ys.nil)) (S3) (by rfl) (by rfl) ?_
    refine anyG_of_any _ _ _ _ (by kernel_rfl) ?_
    refine any_one (k := 11) (by kernel_rfl) rfl (by rfl) (fun Q2 hQ2 => ?_); go_wp2_with fail; (try refine hQ2 _ _ ?_); (try clear hQ2 Q2)
    refine wpAny_done (by kernel_rfl) ?_ _
    have hq : n' = l.length + 1 := by rw [HN'.out, HLq.out]; exact HLen.out
    have Q1 := Lib.hid (HLq.out ▸ P1.out)
    have Q2 := Lib.hid ((Upd.of_below (S := foot g (Value.slice A n c)) (U2.out.trans (((Below.refl _ w2).drew.alloc (Nat.le_refl _) (.cells #[.int .i64 tick, .int .i64 value] 75)).mono U2.out.size))).trans P2.out (fun k hk => .inl hk))
    have Q3 := Lib.hid (fun k hk => (P3.out k hk).imp id (fun h => Nat.le_trans (Nat.le_trans U2.out.size ((Below.refl w2.heap.size w2).drew.alloc (Nat.le_refl _) (.cells #[.int .i64 tick, .int .i64 value] 75)).size) h))
    have e0 := Q1.out.1.cellv (i := 0) (v := .slice A' n' c') rfl
    have e1 := Q1.out.1.cellv (i := 1) (v := .int .i64 room) rfl
    have ef := Q1.out.1.frozen 0
    clear P1 P2 P3 hu3 ho3 hw3 HN' p4 p5 S3 SG bG lG S0 HF HS S2 U2 X1 X2 HLq
    generalize w3.setCell ⟨g, 0, none⟩ (.slice A' n' c') = w5 at *
    have hn' : n' ≤ 10001 := by have := HN.out; omega
    by_cases hov : room.toNat < l.length + 1
    · have HE := Lib.hid (show RES = L.drop 1 by rw [HI.out, if_pos hov])
      have d1 : decide (room < (n' : Int)) = true := by simp; omega
      have hov2 : room < (n' : Int) := by omega
      have H1 := Lib.hid (show 1 ≤ L.length by rw [HLen.out]; omega)
      have HL2 := Lib.hid (show L.length ≤ 100000 by rw [HLen.out]; have := HN.out; omega)
      clear hq hov HN HR HL HLen HI
      go_wp2
      go_quiet (fail)
      go_wp2_with fail
      refine (slices_Delete (base := 0) (.slice A' n' c') L 1 _ (Own.drewN_ Q1.out.2.1 _) HL2.out H1.out).mono ?_
      rintro e w6 ⟨v6, rfl, ho6, hv6, hu6⟩
      obtain ⟨A6, n6, c6, rfl, -, -⟩ := ho6.shape smp_len
      obtain ⟨p1, p2, p3, p4, p5⟩ := SerAt.put (SerAt.drewN_ Q1.out _) hu6 ho6 (.inl hv6)
      have P1 := Lib.hid p1
      have P2 := Lib.hid p2
      have P3 := Lib.hid p3
      clear p1 p2 p3 ho6 hv6 hu6 e0 e1 ef
      go_wp2
      go_ret
      refine ⟨_, rfl, HE.out ▸ P1.out, (Upd.drewN_ Q2.out _).trans (P2.out) ?_, ?_⟩
      · exact fun k hk => Q3.out k hk
      · exact fun k hk => (P3.out k hk).elim (fun h => Q3.out k h) (fun h => .inr (Nat.le_trans Q2.out.size h))
    · have HE := Lib.hid (show RES = L by rw [HI.out, if_neg hov])
      have d1 : decide (room < (n' : Int)) = false := by simp; omega
      have hov2 : ¬ room < (n' : Int) := by omega
      clear hq hov HN HR HL HLen HI
      go_wp2
      go_quiet (fail)
      go_wp2
      go_ret
      exact ⟨_, rfl, SerAt.drewN_ (HE.out ▸ Q1.out) _, Upd.drewN_ Q2.out _, fun k hk => Q3.out k hk⟩
end Go.Proofs.YtjodpffdlggjgaaGreat
/- The reference's series: Right, Trim, Put. -/
namespace Go.Proofs.YtjodpffdlggjgaaGreat
open Go.RowKit
set_option linter.unusedSimpArgs false
set_option linter.unusedVariables false
set_option maxHeartbeats 4000000
set_option maxRecDepth 100000
theorem ref08_Right (tick value : Int) (w : World) :
    Calls Tryz.prog 36 #[.int .i64 tick, .int .i64 value] w fun e w' => e = .returned (.int .i64 (serErr tick value)) ∧ w = w' := by
  by_cases h1 : tick < 0
  · rw [serErr_tick h1]
    go_enter Tryz.func36, Tryz.ntmps36
    go_wp2
    go_ret
    exact ⟨rfl, rfl⟩
  · by_cases h2 : value < 0
    · rw [serErr_value (by omega) h2]
      go_enter Tryz.func36, Tryz.ntmps36
      go_wp2
      go_ret
      exact ⟨rfl, rfl⟩
    · rw [serErr_ok (by omega) (by omega)]
      go_enter Tryz.func36, Tryz.ntmps36
      go_wp2
      go_ret
      exact ⟨rfl, rfl⟩
theorem froms_yes {l : List Smp} {t : Int} {k : Nat} {x : Smp} (h : l[k]? = some x) (h1 : t ≤ x.tick) : froms (l.take (k + 1)) t = froms (l.take k) t ++ [x] := by
  rw [take_snoc2 h]; unfold froms; rw [List.filter_append]; simp [h1]
theorem froms_no {l : List Smp} {t : Int} {k : Nat} {x : Smp} (h : l[k]? = some x) (h1 : ¬ t ≤ x.tick) : froms (l.take (k + 1)) t = froms (l.take k) t := by
  rw [take_snoc2 h]; unfold froms; rw [List.filter_append]; simp; omega
/-- What a Put of the reference's keeps: all that there was, and its own x. -/
def RS (w : World) (x : Smp) (wr : World) : Prop := Below w.heap.size w wr ∧ Blk wr w.heap.size 75 #[.int .i64 x.tick, .int .i64 x.value]
theorem RS.start (w : World) (x : Smp) : RS w x (w.alloc (.cells #[.int .i64 x.tick, .int .i64 x.value] 75)) := ⟨by go_grown, Blk.new _ _ _⟩
theorem RS.lt {w wr : World} {x : Smp} (h : RS w x wr) : w.heap.size + 1 ≤ wr.heap.size := h.2.lt
theorem RS.drewN {w wr : World} {x : Smp} (h : RS w x wr) (n : Nat) : RS w x (wr.drewN n) := ⟨below_drewN h.1 n, h.2⟩
theorem RS.push {w wr w2 : World} {x : Smp} (h : RS w x wr) (o : Obj) (hb : Below (w.heap.size + 1) (wr.alloc o) w2) : RS w x w2 :=
  ⟨(h.1.alloc h.1.size o).trans (hb.mono (by omega)), (h.2.alloc o).below hb (by omega)⟩
theorem RS.facts {w wr : World} {x : Smp} (h : RS w x wr) {b o : Nat} {v : Value} (hb : b < w.heap.size) (hc : w.cell? ⟨b, o, none⟩ = some v) : wr.cell? ⟨b, o, none⟩ = some v := (h.1.cell (p := ⟨b, o, none⟩) hb).trans hc
theorem RS.x0 {w wr : World} {x : Smp} (h : RS w x wr) : wr.cell? ⟨w.heap.size, 0, none⟩ = some (.int .i64 x.tick) ∧ wr.cell? ⟨w.heap.size, 1, none⟩ = some (.int .i64 x.value) := ⟨h.2.cellv rfl, h.2.cellv rfl⟩
def PutS (w : World) (l : List Smp) (e : Ending) (w' : World) : Prop := ∃ A n c, e = .returned (.slice A n c) ∧ SmpsAre w' A n c l ∧ Below w.heap.size w w' ∧ (∀ a, A = some a → w.heap.size ≤ a.block ∧ a.block < w'.heap.size)
theorem slice_tail {w : World} {base h n c : Nat} {y : Smp} {l : List Smp} (ho : OwnS w base (.slice (some ⟨h, 0, none⟩) n c) (y :: l)) : (c = 1 → l = []) ∧ (c ≠ 1 → SmpsAre w (some ⟨h, 2, none⟩) (n - 1) (c - 1) l) ∧ (l = [] → SmpsAre w (some ⟨h, 0, none⟩) (n - 1) (c - 1) l) := by
  have hs := ho.is smp_len
  have hl := hs.1
  have hnc := hs.2.1
  simp only [List.length_cons] at hl
  refine ⟨fun hc => List.eq_nil_of_length_eq_zero (by omega), fun hc => ⟨by omega, by omega, by have := hs.2.2.1; omega, (fun h => by cases h), fun a ha => ?_⟩, fun hl0 => ⟨by rw [hl0]; simp; rw [hl0] at hl; simp at hl; omega, by omega, by have := hs.2.2.1; omega, (fun h => by cases h), fun a ha => ?_⟩⟩
  · cases ha
    obtain ⟨h1, h2⟩ := hs.2.2.2.2 _ rfl
    refine ⟨fun i x hi j v hj => ?_, fun _ => h2 (by omega)⟩
    have := h1 (i + 1) x (by simpa using hi) j v hj
    rw [Addr.add_lit] at this ⊢
    rw [show 2 + (i * 2 + j) = 0 + ((i + 1) * 2 + j) by omega]
    exact this
  · cases ha
    obtain ⟨h1, h2⟩ := hs.2.2.2.2 _ rfl
    exact ⟨fun i x hi j v hj => by rw [hl0] at hi; simp at hi, fun _ => h2 (by omega)⟩
end Go.Proofs.YtjodpffdlggjgaaGreat
/- The reference's series: Put. -/
namespace Go.Proofs.YtjodpffdlggjgaaGreat
open Go.RowKit
set_option linter.unusedSimpArgs false
set_option linter.unusedVariables false
set_option maxHeartbeats 4000000
set_option maxRecDepth 100000
theorem putq_cases (l : List Smp) (room : Nat) (x : Smp) : (room < (putL l x).length ∧ putq l room x = (putL l x).drop 1) ∨ (¬ room < (putL l x).length ∧ putq l room x = putL l x) := by
  unfold putq
  by_cases h : room < (putL l x).length
  · exact .inl ⟨h, if_pos h⟩
  · exact .inr ⟨h, if_neg h⟩
theorem putL_len (l : List Smp) (x : Smp) : (putL l x).length = (lows l x.tick).length + (highs l x.tick).length + 1 := by unfold putL; simp; omega
theorem putL_cons (l : List Smp) (x : Smp) : ∃ y T, putL l x = y :: T := by
  cases h : putL l x with
  | nil => have := putL_len l x; rw [h] at this; simp at this
  | cons y T => exact ⟨y, T, rfl⟩
theorem Own.some_ {α : Type} {w : World} {base e size : Nat} {cells : α → List Value} {v : Value} {l : List α} (h : Own w base e size cells v l) (hsz : ∀ x, (cells x).length = size) (hl : 0 < l.length) : ∃ g n c, v = .slice (some ⟨g, 0, none⟩) n c ∧ n = l.length := by
  rcases h.2 with ⟨rfl, hn⟩ | ⟨g, cap, cur, rfl, _⟩
  · omega
  · exact ⟨g, _, cap, rfl, rfl⟩
theorem ref08_Put (A : Option Addr) (len cap : Nat) (l : List Smp) (room : Nat) (x : Smp) (w : World) (hs : SmpsAre w A len cap l) (hn : len ≤ 10000) (hsrt : Srt l) (hroom : room ≤ 1000000) :
    Calls Tryz.prog 37 #[.slice A len cap, .int .i64 room, .agg #[.int .i64 x.tick, .int .i64 x.value]] w (PutS w (putq l room x)) := by
  have HS := Lib.hid hs
  have HL := Lib.hid hs.1
  have HSr := Lib.hid hsrt
  have HR := Lib.hid (show room ≤ 1000000 from hroom)
  have HQ := Lib.hid (putq_cases l room x)
  generalize putq l room x = Q at *
  clear hs hsrt
  go_enter Tryz.func37, Tryz.ntmps37
  go_wp2
  go_loopw [7, 8, 9] (fun v iv i wr => ∃ k : Nat, ∃ is : Bool, k ≤ len ∧ i = .int .i64 k ∧ iv = .bool is ∧ isIn l x.tick k = is ∧ OwnS wr (w.heap.size + 1) v (refOut l x k) ∧ RS w x wr) (fun _ _ i _ => len - (intOf i).toNat)
  case atStart => exact ⟨0, false, Nat.zero_le _, rfl, rfl, (out_zero l x).2, by rw [(out_zero l x).1]; exact Own.nil _ _ _ _ _, RS.start w x⟩
  case round =>
    obtain ⟨k, is, hk, rfl, rfl, hin, hown, hrs⟩ := hrel
    have HI := Lib.hid hin
    have HO := Lib.hid hown
    have R0 := Lib.hid hrs
    clear hin hown
    by_cases hlt : k < len
    · obtain ⟨b, off, y, rfl, hy, hb, t0, t1⟩ := HS.out.at_ hlt
      have HF := Lib.hid (fun wr (h : RS w x wr) => (⟨h.facts hb t0, h.facts hb t1, h.x0.1, h.x0.2⟩ : wr.cell? ⟨b, off + k * 2, none⟩ = some (.int .i64 y.tick) ∧ wr.cell? ⟨b, off + k * 2 + 1, none⟩ = some (.int .i64 y.value) ∧ wr.cell? ⟨w.heap.size, 0, none⟩ = some (.int .i64 x.tick) ∧ wr.cell? ⟨w.heap.size, 1, none⟩ = some (.int .i64 x.value)))
      have hle : (refOut l x k).length < 999999 := by
        have h1 := out_len l x k
        have h3 := HL.out
        omega
      have HLE := Lib.hid hle
      have hki : (k : Int) < (len : Int) := by omega
      have HX := Lib.hid hy
      have hsz := hrs.lt
      obtain ⟨k0, k1, k2, k3⟩ := HF.out wr hrs
      clear hy hb t0 t1 hrs hle
      cases is
      · by_cases c1 : y.tick < x.tick
        · have HN := Lib.hid (out_low HSr.out HX.out c1)
          have d1 : decide (x.tick ≤ y.tick) = false := by simp; omega
          have d2 : (y.tick != x.tick) = true := by simp; omega
          go_wp2
          go_quiet (fail)
          go_wp2
          go_quiet (fail)
          go_wp2_with (at_builtin; refine push_smp _ rfl _ _ rfl (w.heap.size + 1) _ _ rfl (Own.alloc (Own.drewN_ HO.out _) _) _ _ 1 y rfl (Blk.new _ _ _) (Nat.lt_succ_of_lt HLE.out) (by simp; omega) ?_; intro v2 w2 ho2 hb2 hg2; have E1 := Lib.hid ho2; have E2 := Lib.hid (RS.push (RS.drewN R0.out _) _ hb2); clear ho2 hb2 hg2)
          go_roundw
          case rel => exact ⟨k + 1, false, by omega, by go_num, rfl, HN.out.2.1, by rw [HN.out.2.2]; exact E1.out, E2.out⟩
          case measure => simp [intOf]; omega
        · by_cases c2 : y.tick = x.tick
          · have HN := Lib.hid (out_same HX.out c2 HI.out)
            have HN2 := Lib.hid (in_next HX.out (t := x.tick) (by omega))
            have d1 : decide (x.tick ≤ y.tick) = true := by simp; omega
            have d2 : (y.tick != x.tick) = false := by simp; omega
            clear c1 c2
            go_wp2
            go_quiet (fail)
            go_wp2_with (at_builtin; refine push_smp _ rfl _ _ rfl (w.heap.size + 1) _ _ rfl (Own.alloc (Own.drewN_ HO.out _) _) _ _ 1 x rfl (Blk.new _ _ _) (Nat.lt_succ_of_lt HLE.out) (by have := hsz; simp; omega) ?_; intro v2 w2 ho2 hb2 hg2; have E1 := Lib.hid ho2; have E2 := Lib.hid (RS.push (RS.drewN R0.out _) _ hb2); clear ho2 hb2 hg2)
            obtain ⟨m0, m1, m2, m3⟩ := HF.out _ E2.out
            clear k0 k1 k2 k3
            go_quiet (fail)
            go_wp2
            go_roundw
            case rel => exact ⟨k + 1, true, by omega, by go_num, rfl, HN2.out, by rw [HN.out]; exact Own.drewN_ E1.out _, RS.drewN E2.out _⟩
            case measure => simp [intOf]; omega
          · have c3 : x.tick < y.tick := by omega
            have HN := Lib.hid (out_over HX.out c3 HI.out)
            have HN2 := Lib.hid (in_next HX.out (t := x.tick) (by omega))
            have d1 : decide (x.tick ≤ y.tick) = true := by simp; omega
            have d2 : (y.tick != x.tick) = true := by simp; omega
            clear c1 c2 c3
            go_wp2
            go_quiet (fail)
            go_wp2_with (at_builtin; refine push_smp _ rfl _ _ rfl (w.heap.size + 1) _ _ rfl (Own.alloc (Own.drewN_ HO.out _) _) _ _ 1 x rfl (Blk.new _ _ _) (Nat.lt_succ_of_lt HLE.out) (by have := hsz; simp; omega) ?_; intro v2 w2 ho2 hb2 hg2; have E1 := Lib.hid ho2; have E2 := Lib.hid (RS.push (RS.drewN R0.out _) _ hb2); clear ho2 hb2 hg2)
            obtain ⟨m0, m1, m2, m3⟩ := HF.out _ E2.out
            clear k0 k1 k2 k3
            have hle2 : (refOut l x k ++ [x]).length < 1000000 := by rw [List.length_append]; have := HLE.out; simp; omega
            have HLE2 := Lib.hid hle2
            have hsz2 := E2.out.lt
            clear hle2
            go_quiet (fail)
            go_wp2_with (at_builtin; refine push_smp _ rfl _ _ rfl (w.heap.size + 1) _ _ rfl (Own.alloc (Own.drewN_ E1.out _) _) _ _ 1 y rfl (Blk.new _ _ _) (HLE2.out) (by have := hsz2; simp; omega) ?_; intro v3 w3 ho3 hb3 hg3; have F1 := Lib.hid ho3; have F2 := Lib.hid (RS.push (RS.drewN E2.out _) _ hb3); clear ho3 hb3 hg3)
            go_roundw
            case rel => exact ⟨k + 1, true, by omega, by go_num, rfl, HN2.out, by rw [HN.out]; exact F1.out, F2.out⟩
            case measure => simp [intOf]; omega
      · have HN := Lib.hid (out_more HSr.out HX.out HI.out)
        have d2 : (y.tick != x.tick) = true := by have := HN.out.1; simp; omega
        go_wp2
        go_quiet (fail)
        go_wp2
        go_quiet (fail)
        go_wp2_with (at_builtin; refine push_smp _ rfl _ _ rfl (w.heap.size + 1) _ _ rfl (Own.alloc (Own.drewN_ HO.out _) _) _ _ 1 y rfl (Blk.new _ _ _) (Nat.lt_succ_of_lt HLE.out) (by have := hsz; simp; omega) ?_; intro v2 w2 ho2 hb2 hg2; have E1 := Lib.hid ho2; have E2 := Lib.hid (RS.push (RS.drewN R0.out _) _ hb2); clear ho2 hb2 hg2)
        go_roundw
        case rel => exact ⟨k + 1, true, by omega, by go_num, rfl, HN.out.2.1, by rw [HN.out.2.2]; exact E1.out, E2.out⟩
        case measure => simp [intOf]; omega
    · have hE : k = l.length := by have := HL.out; omega
      have hsz := hrs.lt
      obtain ⟨m2, m3⟩ := hrs.x0
      clear hrs
      cases is
      · have HP := Lib.hid (out_end_no (by rw [← hE]; exact HI.out))
        have hle : (refOut l x k).length < 1000000 := by have := out_len l x k; have := HL.out; omega
        have HLE := Lib.hid hle
        rw [← hE] at HP
        clear hE hle
        go_upto_region 13 with (at_builtin; refine push_smp _ rfl _ _ rfl (w.heap.size + 1) _ _ rfl (Own.alloc HO.out _) _ _ 1 x rfl (Blk.new _ _ _) HLE.out (by have := hsz; simp; omega) ?_; intro v2 w2 ho2 hb2 hg2; have E1 := Lib.hid (HP.out ▸ ho2); have E2 := Lib.hid (RS.push R0.out _ hb2); clear ho2 hb2 hg2)
        obtain ⟨h2, n2, c2, rfl, hn2⟩ := Own.some_ E1.out smp_len (by rw [putL_len]; omega)
        have hc2 := (E1.out.is smp_len).2.1
        have hc3 : c2 ≤ 9223372036854775807 := by have := (E1.out.is smp_len).2.2.1; unfold maxLen at this; omega
        have hn4 : 1 ≤ n2 := by rw [hn2, putL_len]; omega
        have hn5 : n2 ≤ 20000 := by rw [hn2]; have := len_putL l x; have := HL.out; omega
        have HFr := Lib.hid (show w.heap.size ≤ h2 ∧ h2 < _ from ⟨by have := (World.ownsRow.lt E1.out h2 rfl).1; omega, (World.ownsRow.lt E1.out h2 rfl).2⟩)
        have HN2 := Lib.hid hn2
        obtain ⟨y, T, hyT⟩ := putL_cons l x
        have HT := Lib.hid hyT
        clear hn2 hyT
        rcases HQ.out with ⟨q1, q2⟩ | ⟨q1, q2⟩
        · have q3 : room < n2 := by rw [HN2.out]; exact q1
          have H2 := Lib.hid q2
          clear q1 q2
          by_cases hc : c2 = 1
          · have HC := Lib.hid hc
            subst hc
            go_wp2
            go_ret
            refine ⟨_, _, _, rfl, ?_, E2.out.1, fun a ha => by cases ha; exact HFr.out⟩
            rw [H2.out, HT.out]
            have E4 := HT.out ▸ E1.out
            have E5 := (slice_tail E4).1 rfl
            have h0 : n2 - 1 = 0 := by omega
            have E6 := (slice_tail E4).2.2 E5
            rw [h0] at E6
            exact E6
          · go_wp2
            go_ret
            refine ⟨_, _, _, rfl, ?_, E2.out.1, fun a ha => by cases ha; exact HFr.out⟩
            rw [H2.out, HT.out]
            exact (slice_tail (HT.out ▸ E1.out)).2.1 hc
        · have q3 : ¬ room < n2 := by rw [HN2.out]; exact q1
          have H2 := Lib.hid q2
          clear q1 q2
          go_wp2
          go_ret
          refine ⟨_, _, _, rfl, ?_, E2.out.1, fun a ha => by cases ha; exact HFr.out⟩
          rw [H2.out]
          exact E1.out.is smp_len
      · have HP := Lib.hid (out_end_in (by rw [← hE]; exact HI.out))
        rw [← hE] at HP
        clear hE
        have E1 := Lib.hid (HP.out ▸ HO.out)
        obtain ⟨h2, n2, c2, rfl, hn2⟩ := Own.some_ E1.out smp_len (by rw [putL_len]; omega)
        have hc2 := (E1.out.is smp_len).2.1
        have hc3 : c2 ≤ 9223372036854775807 := by have := (E1.out.is smp_len).2.2.1; unfold maxLen at this; omega
        have hn4 : 1 ≤ n2 := by rw [hn2, putL_len]; omega
        have hn5 : n2 ≤ 20000 := by rw [hn2]; have := len_putL l x; have := HL.out; omega
        have HFr := Lib.hid (show w.heap.size ≤ h2 ∧ h2 < _ from ⟨by have := (World.ownsRow.lt E1.out h2 rfl).1; omega, (World.ownsRow.lt E1.out h2 rfl).2⟩)
        have HN2 := Lib.hid hn2
        obtain ⟨y, T, hyT⟩ := putL_cons l x
        have HT := Lib.hid hyT
        clear hn2 hyT
        rcases HQ.out with ⟨q1, q2⟩ | ⟨q1, q2⟩
        · have q3 : room < n2 := by rw [HN2.out]; exact q1
          have H2 := Lib.hid q2
          clear q1 q2
          by_cases hc : c2 = 1
          · have HC := Lib.hid hc
            subst hc
            go_wp2
            go_ret
            refine ⟨_, _, _, rfl, ?_, R0.out.1, fun a ha => by cases ha; exact HFr.out⟩
            rw [H2.out, HT.out]
            have E4 := HT.out ▸ E1.out
            have E5 := (slice_tail E4).1 rfl
            have h0 : n2 - 1 = 0 := by omega
            have E6 := (slice_tail E4).2.2 E5
            rw [h0] at E6
            exact E6
          · go_wp2
            go_ret
            refine ⟨_, _, _, rfl, ?_, R0.out.1, fun a ha => by cases ha; exact HFr.out⟩
            rw [H2.out, HT.out]
            exact (slice_tail (HT.out ▸ E1.out)).2.1 hc
        · have q3 : ¬ room < n2 := by rw [HN2.out]; exact q1
          have H2 := Lib.hid q2
          clear q1 q2
          go_wp2
          go_ret
          refine ⟨_, _, _, rfl, ?_, R0.out.1, fun a ha => by cases ha; exact HFr.out⟩
          rw [H2.out]
          exact E1.out.is smp_len
end Go.Proofs.YtjodpffdlggjgaaGreat
/- Package series: Put, Of; the reference's Of. -/
namespace Go.Proofs.YtjodpffdlggjgaaGreat
open Go.RowKit
set_option linter.unusedSimpArgs false
set_option linter.unusedVariables false
set_option maxHeartbeats 4000000
set_option maxRecDepth 100000
theorem putL_len_of {l : List Smp} (hs : Srt l) (x : Smp) : ((∃ y, l[placeq l x.tick]? = some y ∧ y.tick = x.tick) ∧ (putL l x).length = l.length) ∨ ((∀ y, l[placeq l x.tick]? = some y → y.tick ≠ x.tick) ∧ (putL l x).length = l.length + 1) := by
  by_cases h : ∃ y, l[placeq l x.tick]? = some y ∧ y.tick = x.tick
  · obtain ⟨y, h1, h2⟩ := h
    exact .inl ⟨⟨y, h1, h2⟩, by rw [← put_set hs h1 h2, List.length_set]⟩
  · have h2 : ∀ y, l[placeq l x.tick]? = some y → y.tick ≠ x.tick := fun y h1 h3 => h ⟨y, h1, h3⟩
    have := place_le l x.tick
    exact .inr ⟨h2, by rw [← put_ins hs h2]; simp; omega⟩
theorem series_Put (g : Nat) (v : Value) (l : List Smp) (room : Nat) (x : Smp) (w : World) (h : SerAt w g v l room) (hs : Srt l) (hlr : l.length ≤ room) (h1 : 1 ≤ room) (h2 : room ≤ 10000) (he : serErr x.tick x.value = 0) :
    Calls Tryz.prog 57 #[.pointer (some ⟨g, 0, none⟩), .int .i64 x.tick, .int .i64 x.value] w (SerPost g v (putq l room x) room w (.int .i64 0)) := by
  rcases putL_len_of hs x with ⟨⟨y, hy, hyt⟩, hl⟩ | ⟨hy, hl⟩
  · have e : putq l room x = l.set (placeq l x.tick) x := by
      unfold putq
      rw [if_neg (by omega), put_set hs hy hyt]
    rw [e]
    exact series_Put_set g v l room x.tick x.value y w h hs (by omega) he (by omega) hy hyt
  · have e : putq l room x = insq l room x.tick x.value := by
      unfold putq insq
      rw [hl]
      show _ = if (room : Int).toNat < l.length + 1 then (l.take (placeq l x.tick) ++ x :: l.drop (placeq l x.tick)).drop 1 else l.take (placeq l x.tick) ++ x :: l.drop (placeq l x.tick)
      rw [put_ins hs hy, Int.toNat_natCast]
    rw [e]
    exact series_Put_ins g v l room x.tick x.value w h hs (by omega) he (by omega) (by simpa using hlr) hy
theorem SerPost.same {g : Nat} {v : Value} {l : List Smp} {room : Int} {w : World} {ret : Value} (h : SerAt w g v l room) : SerPost g v l room w ret (.returned ret) w := ⟨v, rfl, h, Upd.refl _ _, fun _ hk => .inl hk⟩
/-- Put of whatever sample. -/
theorem series_Putv (g : Nat) (v : Value) (l : List Smp) (room : Nat) (x : Smp) (w : World) (h : SerAt w g v l room) (hs : Srt l) (hlr : l.length ≤ room) (h1 : 1 ≤ room) (h2 : room ≤ 10000) :
    Calls Tryz.prog 57 #[.pointer (some ⟨g, 0, none⟩), .int .i64 x.tick, .int .i64 x.value] w (SerPost g v (putv l room x) room w (.int .i64 (serErr x.tick x.value))) := by
  by_cases he : serErr x.tick x.value = 0
  · have := series_Put g v l room x w h hs hlr h1 h2 he
    unfold putv
    rw [if_pos he, he]
    exact this
  · unfold putv
    rw [if_neg he]
    refine (series_Put_bad (some ⟨g, 0, none⟩) x.tick x.value _ w he rfl).mono ?_
    rintro e w' ⟨rfl, rfl⟩
    exact SerPost.same h
theorem series_Putv_nil (x : Smp) (w : World) :
    Calls Tryz.prog 57 #[.pointer none, .int .i64 x.tick, .int .i64 x.value] w fun e w' => e = .returned (.int .i64 (if serErr x.tick x.value = 0 then 5 else serErr x.tick x.value)) ∧ w = w' := by
  by_cases he : serErr x.tick x.value = 0
  · rw [if_pos he]; exact series_Put_nil x.tick x.value w he
  · rw [if_neg he]; exact series_Put_bad none x.tick x.value _ w he rfl
theorem srt_putv {l : List Smp} (hs : Srt l) (room : Nat) (x : Smp) : Srt (putv l room x) := by
  unfold putv; split
  · exact srt_putq hs room x
  · exact hs
theorem len_putv {l : List Smp} {room : Nat} (h : l.length ≤ room) (h1 : 1 ≤ room) (x : Smp) : (putv l room x).length ≤ room := by
  unfold putv; split
  · exact len_putq h h1 x
  · exact h
theorem good_putv {l : List Smp} (h : ∀ y ∈ l, y.good) {x : Smp} (hx : x.good) (room : Nat) : ∀ y ∈ putv l room x, y.good := by
  unfold putv; split
  · exact good_putq h hx room
  · exact h
theorem serq_next {l : List Smp} {k : Nat} {x : Smp} (room : Nat) (h : l[k]? = some x) : serq room (l.take (k + 1)) = putv (serq room (l.take k)) room x := by
  unfold serq; rw [take_snoc2 h, List.foldl_append]; rfl
theorem fold_all {P : List Smp → Prop} {room : Nat} (hp : ∀ a x, P a → P (putv a room x)) : ∀ (l a : List Smp), P a → P (l.foldl (fun a x => putv a room x) a)
  | [], a, h => h
  | x :: l, a, h => fold_all hp l _ (hp a x h)
theorem srt_serq (room : Nat) (l : List Smp) : Srt (serq room l) := fold_all (P := Srt) (fun a x h => srt_putv h room x) l [] List.Pairwise.nil
theorem len_serq {room : Nat} (h1 : 1 ≤ room) (l : List Smp) : (serq room l).length ≤ room := fold_all (P := fun a => a.length ≤ room) (fun a x h => len_putv h h1 x) l [] (Nat.zero_le _)
theorem good_serq (room : Nat) {l : List Smp} (hg : ∀ y ∈ l, y.good) : ∀ y ∈ serq room l, y.good := by
  have key : ∀ (l a : List Smp), (∀ y ∈ l, y.good) → (∀ y ∈ a, y.good) → ∀ y ∈ l.foldl (fun a x => putv a room x) a, y.good := by
    intro l
    induction l with
    | nil => intro a _ h; exact h
    | cons x l ih => intro a hl ha; exact ih _ (fun y hy => hl y (by simp [hy])) (good_putv ha (hl x (by simp)) room)
  exact key l [] hg (fun y hy => by simp at hy)
/-- A series of the call's own. -/
def SerIn (B : Nat) (w wr : World) (g : Nat) (v : Value) (l : List Smp) (room : Int) : Prop := SerAt wr g v l room ∧ (∀ k, foot g v k → B ≤ k) ∧ Below B w wr ∧ B ≤ wr.heap.size
theorem SerIn.call {B : Nat} {w wr w' : World} {g : Nat} {v : Value} {l : List Smp} {room : Int} (h : SerIn B w wr g v l room) (hb : Below wr.heap.size wr w') : SerIn B w w' g v l room :=
  ⟨h.1.call hb, h.2.1, h.2.2.1.trans (hb.mono h.2.2.2), Nat.le_trans h.2.2.2 hb.size⟩
theorem SerIn.post {B : Nat} {w wr w' : World} {g : Nat} {v : Value} {l l' : List Smp} {room : Int} {ret : Value} {e : Ending} (h : SerIn B w wr g v l room) (hp : SerPost g v l' room wr ret e w') : e = .returned ret ∧ ∃ v', SerIn B w w' g v' l' room := by
  obtain ⟨v', he, h1, h2, h3⟩ := hp
  refine ⟨he, v', h1, fun k hk => (h3 k hk).elim (fun hk => h.2.1 k hk) (fun hk => Nat.le_trans h.2.2.2 hk), h.2.2.1.trans (h2.below h.2.1 h.2.2.2), Nat.le_trans h.2.2.2 h2.size⟩
theorem SerIn.new (w : World) (room : Int) : SerIn w.heap.size w (w.alloc (.cells #[.slice none 0 0, .int .i64 room] 116)) w.heap.size (.slice none 0 0) [] room :=
  ⟨SerAt.new w room, fun k hk => by
    rcases hk with rfl | hk
    · exact Nat.le_refl _
    · simp [Value.ownBlock] at hk, by go_grown, by simp⟩
def OfS (w : World) (l : List Smp) (room : Int) (e : Ending) (w' : World) : Prop := ∃ g v, e = .returned (.pointer (some ⟨g, 0, none⟩)) ∧ SerIn w.heap.size w w' g v l room
end Go.Proofs.YtjodpffdlggjgaaGreat
/- A series, or none, in one: New, Put, List. -/
namespace Go.Proofs.YtjodpffdlggjgaaGreat
open Go.RowKit
set_option linter.unusedSimpArgs false
set_option linter.unusedVariables false
set_option maxHeartbeats 4000000
set_option maxRecDepth 100000
def goodS (room : Int) : Prop := 1 ≤ room ∧ room ≤ 256
instance (room : Int) : Decidable (goodS room) := by unfold goodS; infer_instance
def putr (l : List Smp) (room : Int) (x : Smp) : List Smp := if goodS room then putv l room.toNat x else l
def errr (room : Int) (x : Smp) : Int := if serErr x.tick x.value = 0 then (if goodS room then 0 else 5) else serErr x.tick x.value
/-- p is a series (or none), in the blocks F. -/
def SerV (w : World) (p : Option Addr) (F : Nat → Prop) (xs : List Smp) (room : Int) : Prop :=
  ((p = none ∧ xs = [] ∧ ¬ goodS room) ∨ ∃ (g : Nat) (v : Value) (rm : Nat), p = some ⟨g, 0, none⟩ ∧ room = rm ∧ 1 ≤ rm ∧ rm ≤ 256 ∧ SerAt w g v xs rm ∧ (∀ k, foot g v k → F k) ∧ Srt xs ∧ xs.length ≤ rm) ∧ ∀ k, F k → k < w.heap.size
theorem SerV.upd {S F : Nat → Prop} {w w' : World} {p : Option Addr} {xs : List Smp} {room : Int} (h : SerV w p F xs room) (hu : Upd S w w') (hn : ∀ k, F k → ¬ S k) : SerV w' p F xs room := by
  refine ⟨?_, fun k hk => Nat.lt_of_lt_of_le (h.2 k hk) hu.size⟩
  rcases h.1 with h | ⟨g, v, rm, e1, e2, e3, e4, e5, e6, e7⟩
  · exact .inl h
  · exact .inr ⟨g, v, rm, e1, e2, e3, e4, e5.upd hu (fun k hk => hn k (e6 k hk)), e6, e7⟩
theorem SerV.call {F : Nat → Prop} {w w' : World} {p : Option Addr} {xs : List Smp} {room : Int} (h : SerV w p F xs room) (hb : Below w.heap.size w w') : SerV w' p F xs room :=
  h.upd (S := fun _ => False) (Upd.of_below hb) (fun _ _ hk => hk)
theorem SerV.len {F : Nat → Prop} {w : World} {p : Option Addr} {xs : List Smp} {room : Int} (h : SerV w p F xs room) : xs.length ≤ 256 := by
  rcases h.1 with ⟨-, rfl, -⟩ | ⟨g, v, rm, e1, e2, e3, e4, e5, e6, e7, e8⟩
  · simp
  · omega
def NewV (w : World) (room : Int) (e : Ending) (w' : World) : Prop := ∃ p F, e = .returned (.pointer p) ∧ SerV w' p F [] room ∧ (∀ k, F k → w.heap.size ≤ k) ∧ Below w.heap.size w w'
theorem serv_New (room : Int) (w : World) : Calls Tryz.prog 41 #[.int .i64 room] w (NewV w room) := by
  by_cases hr : goodS room
  · obtain ⟨rm, rfl⟩ : ∃ rm : Nat, room = rm := ⟨room.toNat, by unfold goodS at hr; omega⟩
    have h1 : 1 ≤ rm := by unfold goodS at hr; omega
    have h2 : rm ≤ 256 := by unfold goodS at hr; omega
    refine (series_New rm w (by omega) (by omega)).mono ?_
    rintro e w' ⟨rfl, rfl⟩
    refine ⟨_, fun k => k = w.heap.size, rfl, ⟨.inr ⟨_, _, rm, rfl, rfl, h1, h2, SerAt.new w rm, ?_, List.Pairwise.nil, by simp⟩, ?_⟩, ?_, by go_grown⟩
    · rintro k (rfl | hk)
      · rfl
      · simp [Value.ownBlock] at hk
    · rintro k rfl; simp
    · rintro k rfl; exact Nat.le_refl _
  · refine (series_New_no room w (by unfold goodS at hr; omega)).mono ?_
    rintro e w' ⟨rfl, rfl⟩
    exact ⟨none, fun _ => False, rfl, ⟨.inl ⟨rfl, rfl, hr⟩, fun _ hk => hk.elim⟩, fun _ hk => hk.elim, Below.refl _ _⟩
def PutV (p : Option Addr) (F : Nat → Prop) (xs : List Smp) (room : Int) (x : Smp) (w : World) (e : Ending) (w' : World) : Prop := ∃ F', e = .returned (.int .i64 (errr room x)) ∧ SerV w' p F' (putr xs room x) room ∧ Upd F w w' ∧ ∀ k, F' k → F k ∨ w.heap.size ≤ k
theorem serv_Put (p : Option Addr) (F : Nat → Prop) (xs : List Smp) (room : Int) (x : Smp) (w : World) (h : SerV w p F xs room) :
    Calls Tryz.prog 57 #[.pointer p, .int .i64 x.tick, .int .i64 x.value] w (PutV p F xs room x w) := by
  rcases h.1 with ⟨rfl, rfl, hr⟩ | ⟨g, v, rm, rfl, rfl, e3, e4, e5, e6, e7, e8⟩
  · refine (series_Putv_nil x w).mono ?_
    rintro e w' ⟨rfl, rfl⟩
    refine ⟨F, ?_, ⟨.inl ⟨rfl, ?_, hr⟩, h.2⟩, Upd.refl _ _, fun k hk => .inl hk⟩
    · unfold errr; rw [if_neg hr]
    · unfold putr; rw [if_neg hr]
  · refine (series_Putv g v xs rm x w e5 e7 e8 e3 (by omega)).mono ?_
    rintro e w' ⟨v', rfl, k1, k2, k3⟩
    have hg : goodS rm := by unfold goodS; omega
    have hp : putr xs rm x = putv xs rm x := by unfold putr; rw [if_pos hg]; rfl
    refine ⟨fun k => F k ∨ foot g v' k, ?_, ⟨.inr ⟨g, v', rm, rfl, rfl, e3, e4, by rw [hp]; exact k1, fun k hk => .inr hk, by rw [hp]; exact srt_putv e7 rm x, by rw [hp]; exact len_putv e8 e3 x⟩, ?_⟩, k2.mono e6, ?_⟩
    · unfold errr; rw [if_pos hg]; split
      · rename_i h0; rw [h0]
      · rfl
    · rintro k (hk | hk)
      · exact Nat.lt_of_lt_of_le (h.2 k hk) k2.size
      · exact k1.lt k hk
    · rintro k (hk | hk)
      · exact .inl hk
      · exact (k3 k hk).imp (e6 k) id
theorem serv_List (p : Option Addr) (F : Nat → Prop) (xs : List Smp) (room : Int) (w : World) (h : SerV w p F xs room) :
    Calls Tryz.prog 60 #[.pointer p] w (CloneS w xs) := by
  rcases h.1 with ⟨rfl, rfl, hr⟩ | ⟨g, v, rm, rfl, rfl, e3, e4, e5, e6, e7, e8⟩
  · refine (series_List_nil w).mono ?_
    rintro e w' ⟨rfl, rfl⟩
    exact CloneS.mk (Own.nil _ _ _ _ _) (Below.refl _ _)
  · exact series_List g v xs rm w e5 (by omega)
end Go.Proofs.YtjodpffdlggjgaaGreat
/- Package ring at api.Advice: All, List: a loop over an iterator. -/
namespace Go.Proofs.YtjodpffdlggjgaaGreat
open Go.RowKit Go.Shelf
set_option linter.unusedSimpArgs false
set_option linter.unusedVariables false
set_option maxHeartbeats 4000000
set_option maxRecDepth 100000
attribute [local go_sem] Oper.semAt_some
theorem RingAt.below {B : Nat} {w w' : World} {g : Nat} {v : Value} {ph : List Adv} {fr room : Nat} (h : RingAt w g v ph fr room) (hb : Below B w w') (hf : ∀ k, foot g v k → k < B) : RingAt w' g v ph fr room :=
  ⟨h.1.below hb (hf g (.inl rfl)), h.2.1.below hb (fun k hk => hf k (.inr hk)), h.2.2⟩
theorem grown_of_below {w w' : World} (h : Below w.heap.size w w') : w.grownBy w' none := ⟨h.os, h.tape, h.output, h.size, fun k hk _ => h.block k hk⟩
/-- What a round keeps: what lay below n₀, and the iterator's own box. -/
def KpR (Bn n₀ : Nat) (A B : World) : Prop := Below n₀ A B ∧ B.heap[Bn]? = A.heap[Bn]?
theorem KpR.trans {Bn n₀ : Nat} {A B C : World} (h : KpR Bn n₀ A B) (h' : KpR Bn n₀ B C) : KpR Bn n₀ A C := ⟨h.1.trans h'.1, h'.2.trans h.2⟩
theorem KpR.put {Bn n₀ : Nat} {w : World} (hB : Bn < w.heap.size) (hn : n₀ ≤ w.heap.size) (W : World) (l : Nat) (o o' : Obj) (hl : w.heap.size ≤ l) (h1 : W.heap[l]? = some o) (h2 : o.isCells = false) (h3 : o.isWalk = false) : KpR Bn n₀ W (W.putObj l o') :=
  ⟨belowK_b (w := w) hn W l o o' hl h1 h2 h3, (belowK_b (w := w) (Nat.le_refl _) W l o o' hl h1 h2 h3).block Bn hB⟩
theorem ring_All1 (n l Bn n₀ g : Nat) (v : Value) (ph : List Adv) (fr room : Nat) (J Jx : List Adv → World → Prop) (hn : 1 ≤ n) (hroom : room ≤ 1000000)
    (hY : ∀ pre x W, J pre W → pre.length < ph.length → YieldAt Fence.wide (n - 1) Tryz.prog l #[.agg (rowA x)] W fun e W' =>
      (e = .returned (.bool true) ∧ J (pre ++ [x]) W' ∧ KpR Bn n₀ W W') ∨ (e = .returned (.bool false) ∧ Jx (pre ++ [x]) W'))
    (W : World) (hJ : AbidesFrom W.heap.size J) (hBn : Boxed W Bn 117 (.pointer (some ⟨g, 0, none⟩))) (hn₀ : n₀ ≤ W.heap.size) (hR : RingAt W g v ph fr room) (hf : ∀ k, foot g v k → k < n₀) (h0 : J [] W) :
    CallsIn Fence.wide n Tryz.prog 132 #[.func (.yield l) #[] #[], .pointer (some ⟨Bn, 0, none⟩)] W fun e W' => (∃ v, e = .returned v) ∧
      ((∃ ys, ys = ringq ph fr ∧ J ys W') ∨ (∃ pre, pre <+: ringq ph fr ∧ Jx pre W')) := by
  have HY := Lib.hid hY
  have HB := Lib.hid hBn
  have HR := Lib.hid hR
  have HF := Lib.hid hf
  have HJ := Lib.hid hJ
  have hL := ringq_len ph fr room hR.2.2.2
  have HL := Lib.hid hL
  have c0 := hBn.cell
  have hlen : ph.length ≤ 1000000 := Nat.le_trans hR.2.2.2.1 hroom
  clear hY hBn hR hf hJ hL
  refine callsIn_of_wp Tryz.func132 rfl trivial ?_ rfl
  simp only [Tryz.ntmps132, List.size_toArray, List.length_cons, List.length_nil, Nat.reduceAdd, Nat.reduceSub, Array.replicate_succ, Array.replicate_zero, List.push_toArray, List.append_toArray, List.nil_append, List.cons_append]
  gi_wp2_with (refine ⟨trivial, ?_⟩; gi_at_call 86; refine (callsIn_wide.2 (ring_Len g v ph fr room _ HR.out)).mono ?_; rintro e w' ⟨rfl, rfl⟩)
  gi_loopw [8] (fun i wr => ∃ k : Nat, k ≤ ph.length ∧ i = .int .i64 k ∧ J ((ringq ph fr).take k) wr ∧ KpR Bn n₀ W wr) (fun i _ => ph.length - (intOf i).toNat)
  case atStart => exact ⟨0, Nat.zero_le _, rfl, h0, Below.refl _ _, rfl⟩
  case round =>
    obtain ⟨k, hk, rfl, hJs, hnx⟩ := hrel
    have HJs := Lib.hid hJs
    have HN := Lib.hid hnx
    clear hJs
    by_cases hlt : k < ph.length
    · obtain ⟨x, hx⟩ : ∃ x, (ringq ph fr)[k]? = some x := ⟨_, List.getElem?_eq_getElem (by rw [HL.out]; exact hlt)⟩
      have HX := Lib.hid hx
      have b1 : Boxed wr Bn 117 (.pointer (some ⟨g, 0, none⟩)) := hnx.2.trans HB.out
      have c1 := b1.cell
      have hBl := b1.lt
      clear b1
      have HA := Lib.hid (ring_At g v ph fr room k x wr (HR.out.below hnx.1 HF.out) hroom hx)
      have hki : (k : Int) < (ph.length : Int) := by omega
      clear hx hnx
      gi_wp2_with (refine ⟨trivial, ?_⟩; gi_at_call 133; refine (callsIn_wide.2 HA.out).mono ?_; rintro e wx ⟨rfl, hbx⟩; have hB2 : Below wr.heap.size wr (wx.alloc (.cells (rowA x) 68)) := hbx.alloc hbx.size _; have hJ2 := HJ.out _ _ _ none HJs.out (grown_of_below hB2) (fun r e => by cases e); obtain ⟨fn, tmps, assign, body, hy, hR⟩ := HY.out _ x _ hJ2 (by rw [List.length_take, HL.out]; omega); simp only [rowA] at hy; have HB2 := Lib.hid hB2; clear hB2 hJ2 hbx)
      refine hR.mono ?_
      have htk : (ringq ph fr).take k ++ [x] = (ringq ph fr).take (k + 1) := by rw [List.take_add_one, HX.out]; rfl
      rintro e W3 (⟨rfl, hJ3, hk3⟩ | ⟨rfl, hJx3⟩)
      · gi_wp2
        go_roundw
        case rel => exact ⟨k + 1, by omega, by simp, by rw [← htk]; exact hJ3, (HN.out.trans ⟨HB2.out.mono (Nat.le_trans hn₀ HN.out.1.size), HB2.out.block Bn hBl⟩).trans hk3⟩
        case measure => simp [intOf]; omega
      · gi_wp2
        refine bodyPost_ret (results_none rfl _ _ _) rfl ?_
        exact ⟨⟨_, rfl⟩, .inr ⟨_, by rw [htk]; exact List.take_prefix _ _, hJx3⟩⟩
    · have hkl : k = ph.length := by omega
      have hJe := HJs.out
      rw [List.take_of_length_le (by rw [HL.out]; omega)] at hJe
      subst hkl
      gi_wp2
      go_end0
      exact ⟨⟨_, rfl⟩, .inl ⟨_, rfl, hJe⟩⟩
theorem ring_All1_nil (n l Bn : Nat) (hn : 1 ≤ n) (J : List Adv → World → Prop) (W : World) (hBn : Boxed W Bn 117 (.pointer none)) (h0 : J [] W) :
    CallsIn Fence.wide n Tryz.prog 132 #[.func (.yield l) #[] #[], .pointer (some ⟨Bn, 0, none⟩)] W fun e W' => (∃ v, e = .returned v) ∧ J [] W' := by
  have c0 := hBn.cell
  refine callsIn_of_wp Tryz.func132 rfl trivial ?_ rfl
  simp only [Tryz.ntmps132, List.size_toArray, List.length_cons, List.length_nil, Nat.reduceAdd, Nat.reduceSub, Array.replicate_succ, Array.replicate_zero, List.push_toArray, List.append_toArray, List.nil_append, List.cons_append]
  gi_wp2_with (refine ⟨trivial, ?_⟩; gi_at_call 86; refine (callsIn_wide.2 (ring_Len_nil _)).mono ?_; rintro e w' ⟨rfl, rfl⟩)
  gi_loopw [8] (fun i wr => i = .int .i64 0 ∧ J [] wr) (fun _ _ => 0)
  case atStart => exact ⟨rfl, h0⟩
  case round =>
    obtain ⟨rfl, hJs⟩ := hrel
    gi_wp2
    go_end0
    exact ⟨⟨_, rfl⟩, hJs⟩
theorem ring_All (n : Nat) (p : Option Addr) (w : World) :
    CallsIn Fence.wide n Tryz.prog 117 #[.pointer p] w fun e w' => e = .returned (.func (.func 132) #[] #[.pointer (some ⟨w.heap.size, 0, none⟩)]) ∧ w' = w.alloc (.cells #[.pointer p] 117) := by
  refine callsIn_of_wp Tryz.func117 rfl trivial ?_ rfl
  simp only [Tryz.ntmps117, List.size_toArray, List.length_cons, List.length_nil, Nat.reduceAdd, Nat.reduceSub, Array.replicate_succ, Array.replicate_zero, List.push_toArray, List.append_toArray, List.nil_append, List.cons_append]
  gi_wp2
  go_ret
  exact ⟨rfl, rfl⟩
/-- A ring, or none. -/
def RingV (w : World) (p : Option Addr) (B : Nat) (xs : List Adv) : Prop := (p = none ∧ xs = []) ∨ ∃ g v ph fr room, p = some ⟨g, 0, none⟩ ∧ RingAt w g v ph fr room ∧ room ≤ 1000000 ∧ (∀ k, foot g v k → k < B) ∧ xs = ringq ph fr
theorem RingV.below {w w' : World} {p : Option Addr} {B : Nat} {xs : List Adv} (h : RingV w p B xs) (hb : Below B w w') : RingV w' p B xs := by
  rcases h with h | ⟨g, v, ph, fr, room, h1, h2, h3, h4, h5⟩
  · exact .inl h
  · exact .inr ⟨g, v, ph, fr, room, h1, h2.below hb h4, h3, h4, h5⟩
theorem RingV.len {w : World} {p : Option Addr} {B : Nat} {xs : List Adv} (h : RingV w p B xs) : xs.length ≤ 1000000 := by
  rcases h with ⟨-, rfl⟩ | ⟨g, v, ph, fr, room, h1, h2, h3, h4, rfl⟩
  · simp
  · rw [ringq_len ph fr room h2.2.2.2]; exact Nat.le_trans h2.2.2.2.1 h3
theorem ring_stops (n : Nat) (hn : 1 ≤ n) (Bn n₀ : Nat) (p : Option Addr) (xs : List Adv) (w : World) (hn₀ : n₀ ≤ w.heap.size) (hc : Boxed w Bn 117 (.pointer p)) (hR : RingV w p n₀ xs) :
    SeqStopsK Fence.wide n Tryz.prog 132 #[.pointer (some ⟨Bn, 0, none⟩)] (fun x : Adv => #[Value.agg (rowA x)]) (KpR Bn n₀) (fun ys => ys = xs) (fun pre => pre <+: xs) xs.length w := fun l J Jx W hW hJ _ hY h0 => by
  have hc' : Boxed W Bn 117 (.pointer p) := (hW.block Bn hc.lt).trans hc
  rcases hR.below (hW.mono (by omega)) with ⟨rfl, rfl⟩ | ⟨g, v, ph, fr, room, rfl, h2, h3, h4, rfl⟩
  · exact (ring_All1_nil n l Bn hn J W hc' h0).mono fun e W' ⟨he, hj⟩ => ⟨he, .inl ⟨_, rfl, hj⟩⟩
  · exact ring_All1 n l Bn n₀ g v ph fr room J Jx hn h3 (fun pre x W1 hp hlt => hY pre x W1 hp (by rw [ringq_len ph fr room h2.2.2.2]; exact hlt)) W hJ hc' (by have := hW.size; omega) h2 (fun k hk => by have := h4 k hk; omega) h0
theorem ring_List_in (n : Nat) (hn : 3 ≤ n) (p : Option Addr) (xs : List Adv) (w : World) (hR : RingV w p w.heap.size xs) :
    CallsIn Fence.wide n Tryz.prog 96 #[.pointer p] w fun e W' => ∃ v, e = .returned v ∧ OwnA W' w.heap.size v xs ∧ Below w.heap.size w W' := by
  have h1 : 1 ≤ n := by omega
  have hlen := hR.len
  obtain ⟨i0, hi, hz0, hz1, hz2⟩ := info_parts info_adv
  refine callsIn_of_wp_marks Tryz.func96 rfl trivial ?_ rfl
  simp only [Tryz.ntmps96, List.size_toArray, List.length_cons, List.length_nil, Nat.reduceAdd, Nat.reduceSub, Array.replicate_succ, Array.replicate_zero, List.push_toArray, List.append_toArray, List.nil_append, List.cons_append]
  gi_wp2_with (refine ⟨trivial, ?_⟩; gi_at_call 117; refine (ring_All (n - 1) _ _).mono ?_; rintro e w' ⟨rfl, rfl⟩)
  have bO := (Boxed.new w 26 (.slice none 0 0)).alloc (.cells #[.pointer p] 117)
  have bN := Boxed.new (w.alloc (.cells #[.slice none 0 0] 26)) 117 (.pointer p)
  rw [World.size_alloc] at bN
  have hB0 : Below w.heap.size w ((w.alloc (.cells #[.slice none 0 0] 26)).alloc (.cells #[.pointer p] 117)) := ((Below.refl _ w).alloc (Nat.le_refl _) _).alloc (by simp) _
  have hsz : ((w.alloc (.cells #[.slice none 0 0] 26)).alloc (.cells #[.pointer p] 117)).heap.size = w.heap.size + 2 := by simp
  obtain ⟨W0, hW0⟩ : ∃ W0, (w.alloc (.cells #[.slice none 0 0] 26)).alloc (.cells #[.pointer p] 117) = W0 := ⟨_, rfl⟩
  rw [hW0] at bN bO hB0 hsz ⊢
  clear hW0
  refine wpIn_rangeFunc_ownH rfl h1 (gf := 132) (lb := #[.pointer (some ⟨w.heap.size + 1, 0, none⟩)]) rfl trivial (enters_of Tryz.func132 (by kernel_rfl) rfl)
    (ring_stops (n - 1) (by omega) (w.heap.size + 1) w.heap.size p xs W0 (by omega) bN (hR.below hB0)) KpR.trans (KpR.put (w := W0) (by omega) (by omega)) (Below.refl _ _) (fun _ => rfl)
    (fun pre W => ((∃ v, Boxed W w.heap.size 26 v ∧ W.ownsRow w.heap.size 68 5 v pre.length (pre.flatMap Adv.cells) ∧ True) ∧ Boxed W (w.heap.size + 1) 117 (.pointer p)) ∧ Below w.heap.size w W)
    (fun _ _ _ => False)
    (OwnFrom.and (OwnFrom.and (Own.from (holdsRow_own w.heap.size w.heap.size 26 68 5 (fun pre : List Adv => pre.length) (fun pre : List Adv => pre.flatMap Adv.cells) (fun _ _ => True)) _) (Own.from (boxed_own _ _ _) _)) (ownFrom_below (Nat.le_refl _) (by omega)))
    (fun _ _ _ _ _ hs _ _ => hs)
    ⟨⟨⟨_, bO, World.ownsRow_nil _ _ _ _, trivial⟩, bN⟩, hB0⟩
    (fun x a' W => ∃ Bx, w.heap.size + 1 < Bx ∧ Blk W Bx 68 (rowA x) ∧ a' = { tmps := #[.pointer p, undef, .slice none 0 0, .pointer (some ⟨w.heap.size, 0, none⟩), .pointer (some ⟨Bx, 0, none⟩), .pointer p, .func (.func 132) #[] #[.pointer (some ⟨w.heap.size + 1, 0, none⟩)], .agg (rowA x), undef, undef, undef, undef, undef], defers := [] })
    (fun x a' _ X Y row hs hg hr => by
      obtain ⟨Bx, h1, h2, h3⟩ := hs
      refine ⟨Bx, h1, h2.grown hg (fun e => ?_), h3⟩
      obtain ⟨o, ho, hc⟩ := (hr Bx e.symm).2
      rw [show X.heap[Bx]? = _ from h2] at ho
      cases ho; cases hc)
    ?assign ?body ?done ?stop
  case assign =>
    rintro l pre x W K ⟨⟨⟨v, hv, hrow, -⟩, bN1⟩, hB⟩ hK
    gi_wp2
    exact hK _ _ ((KeepsOthers.alloc _ _).from _) ⟨(Below.refl _ W).alloc hB.size _, Below.heap_alloc W _ _ bN1.lt⟩ ⟨⟨⟨v, hv.alloc _, hrow.alloc _, trivial⟩, bN1.alloc _⟩, hB.alloc hB.size _⟩ ⟨W.heap.size, bN1.lt, Blk.new W _ _, rfl⟩
  case body =>
    rintro l pre x a' W hl ⟨r, hr⟩ ⟨⟨⟨v, hv, hrow, -⟩, bN1⟩, hB⟩ ⟨Bx, hBx, bX, rfl⟩ hlt
    have hc := hv.cell
    have x0 := bX.cellv (i := 0) rfl
    have x1 := bX.cellv (i := 1) rfl
    have x2 := bX.cellv (i := 2) rfl
    have x3 := bX.cellv (i := 3) rfl
    have x4 := bX.cellv (i := 4) rfl
    gi_wp2_with (gi_at_builtin; refine wpListIn_append_own _ rfl _ _ 26 rfl w.heap.size 68 i0 (.agg zA) 5 40 Tryz.underlying26 hi hz0 hz1 hz2 rfl (by decide) _ _ _ rfl (hrow.alloc _) ⟨W.heap.size, 0, none⟩ 1 1 x.cells rfl rfl (blk_news (α := Adv) (vs := x.cells) (Blk.new _ _ _) rfl) (adv_one x) (by unfold maxLen; omega) (by omega) (by have := hB.size; simp; omega) ?_; intro v' w1 hown' hgrow _; obtain ⟨g', cap', rfl⟩ := ownsRow_succ hown'; obtain ⟨hv1, hv2, hr2, hk2, hb2⟩ := hv.appended (by decide) hrow hB.size (Nat.le_refl _) hown' hgrow; have hn1 : Boxed w1 (w.heap.size + 1) 117 (.pointer p) := (bN1.alloc _).kept hgrow (bN1.not_row (by decide) hrow); have hn2 := hn1.other (B' := w.heap.size) (by omega) (Value.slice (some ⟨g', 0, none⟩) (pre.length + 1) cap'); have hc1 := hv1.cell; have hf1 := hv1.frozen)
    exact ⟨hk2.from _, ⟨hb2, hn2.trans bN1.symm⟩, ⟨⟨⟨_, hv2, by simpa using hr2, trivial⟩, hn2⟩, hB.trans hb2⟩⟩
  case done =>
    rintro D ys W hD rfl ⟨⟨⟨v, hv, hrow, -⟩, bN1⟩, hB⟩ hK
    have hc := hv.cell
    gi_wp2
    refine ⟨by simp, .inl ⟨_, _, rfl, run_takeDeferred hK, ?_⟩⟩
    exact ⟨_, results_tmp rfl _ _ _, v, rfl, ownsRow_putObj hrow _ hK rfl, hB.trans (belowK_b (w := w) (Nat.le_refl _) W D _ _ (by omega) hK rfl rfl)⟩
  case stop =>
    rintro D c pre W _ _ h _
    exact h.elim
theorem ring_List (p : Option Addr) (xs : List Adv) (w : World) (hR : RingV w p w.heap.size xs) :
    Calls Tryz.prog 96 #[.pointer p] w fun e W' => ∃ v, e = .returned v ∧ OwnA W' w.heap.size v xs ∧ Below w.heap.size w W' :=
  callsIn_wide.1 (ring_List_in 3 (Nat.le_refl _) p xs w hR)
end Go.Proofs.YtjodpffdlggjgaaGreat
/- Package history: New, kept, List, Add. -/
namespace Go.Proofs.YtjodpffdlggjgaaGreat
open Go.RowKit
set_option linter.unusedSimpArgs false
set_option linter.unusedVariables false
set_option maxHeartbeats 4000000
set_option maxRecDepth 100000
/-- What the last decisions are behind one more; none where there is no room that may be. -/
def hush (l : List Adv) (room : Int) (x : Adv) : List Adv := if 1 ≤ room ∧ room ≤ 64 then pushq l room.toNat x else []
/-- The ring of a history. -/
def RingOf (w : World) (q p : Option Addr) (F : Nat → Prop) (xs : List Adv) (room : Int) : Prop :=
  (p = none ∧ q = none ∧ xs = [] ∧ (room < 1 ∨ 64 < room)) ∨ ∃ (h g : Nat) (v : Value) (ph : List Adv) (fr rm : Nat), q = some ⟨g, 0, none⟩ ∧ p = some ⟨h, 0, none⟩ ∧ room = rm ∧ 1 ≤ rm ∧ rm ≤ 64 ∧ Blk w h 120 #[.pointer (some ⟨g, 0, none⟩)] ∧ RingAt w g v ph fr rm ∧ F h ∧ h ≠ g ∧ v.ownBlock ≠ some h ∧ (∀ k, foot g v k → F k) ∧ xs = ringq ph fr
/-- p is a history (or none), in the blocks F. -/
def HistAt (w : World) (p : Option Addr) (F : Nat → Prop) (xs : List Adv) (room : Int) : Prop :=
  ((p = none ∧ xs = [] ∧ (room < 1 ∨ 64 < room)) ∨ ∃ (h g : Nat) (v : Value) (ph : List Adv) (fr rm : Nat), p = some ⟨h, 0, none⟩ ∧ room = rm ∧ 1 ≤ rm ∧ rm ≤ 64 ∧ Blk w h 120 #[.pointer (some ⟨g, 0, none⟩)] ∧ RingAt w g v ph fr rm ∧ F h ∧ h ≠ g ∧ v.ownBlock ≠ some h ∧ (∀ k, foot g v k → F k) ∧ xs = ringq ph fr) ∧ ∀ k, F k → k < w.heap.size
theorem HistAt.upd {S F : Nat → Prop} {w w' : World} {p : Option Addr} {xs : List Adv} {room : Int} (h : HistAt w p F xs room) (hu : Upd S w w') (hn : ∀ k, F k → ¬ S k) : HistAt w' p F xs room := by
  refine ⟨?_, fun k hk => Nat.lt_of_lt_of_le (h.2 k hk) hu.size⟩
  rcases h.1 with h | ⟨h, g, v, ph, fr, rm, e1, e2, e3, e4, e5, e6, e7, e8, e9, e10, e11⟩
  · exact .inl h
  · exact .inr ⟨h, g, v, ph, fr, rm, e1, e2, e3, e4, e5.upd hu (hn _ e7), e6.upd hu (fun k hk => hn k (e10 k hk)), e7, e8, e9, e10, e11⟩
theorem HistAt.call {F : Nat → Prop} {w w' : World} {p : Option Addr} {xs : List Adv} {room : Int} (h : HistAt w p F xs room) (hb : Below w.heap.size w w') : HistAt w' p F xs room :=
  h.upd (S := fun _ => False) (Upd.of_below hb) (fun _ _ hk => hk)
theorem HistAt.len {F : Nat → Prop} {w : World} {p : Option Addr} {xs : List Adv} {room : Int} (h : HistAt w p F xs room) : xs.length ≤ 64 := by
  rcases h.1 with ⟨-, rfl, -⟩ | ⟨h, g, v, ph, fr, rm, e1, e2, e3, e4, e5, e6, e7, e8, e9, e10, rfl⟩
  · simp
  · rw [ringq_len ph fr rm e6.2.2.2]; exact Nat.le_trans e6.2.2.2.1 e4
def NewH (w : World) (room : Int) (e : Ending) (w' : World) : Prop := ∃ p F, e = .returned (.pointer p) ∧ HistAt w' p F [] room ∧ (∀ k, F k → w.heap.size ≤ k) ∧ Below w.heap.size w w'
theorem history_New (room : Int) (w : World) (h0 : I64 room) :
    Calls Tryz.prog 42 #[.int .i64 room] w (NewH w room) := by
  by_cases hr : room < 1 ∨ 64 < room
  · have hd : (decide (room < 1) = true) ∨ (decide (room < 1) = false ∧ decide (64 < room) = true) := by
      rcases hr with h | h
      · exact .inl (by simp; omega)
      · by_cases h2 : room < 1
        · exact .inl (by simp; omega)
        · exact .inr ⟨by simp; omega, by simp; omega⟩
    have HR := Lib.hid hr
    clear hr
    rcases hd with d1 | ⟨d1, d2⟩
    · go_enter Tryz.func42, Tryz.ntmps42
      go_wp2
      go_ret
      exact ⟨none, fun _ => False, rfl, ⟨.inl ⟨rfl, rfl, HR.out⟩, fun _ hk => hk.elim⟩, fun _ hk => hk.elim, by go_grown⟩
    · go_enter Tryz.func42, Tryz.ntmps42
      go_wp2
      go_ret
      exact ⟨none, fun _ => False, rfl, ⟨.inl ⟨rfl, rfl, HR.out⟩, fun _ hk => hk.elim⟩, fun _ hk => hk.elim, by go_grown⟩
  · obtain ⟨rm, rfl⟩ : ∃ rm : Nat, room = rm := ⟨room.toNat, by omega⟩
    have d1 : decide ((rm : Int) < 1) = false := by simp; omega
    have d2 : decide ((64 : Int) < (rm : Int)) = false := by simp; omega
    have d1' : ¬ rm < 1 := by omega
    have d2' : ¬ 64 < rm := by omega
    have HC := Lib.hid (fun w => ring_New rm w (by omega) (by omega))
    have HN := Lib.hid (fun w => RingAt.new w rm (by omega))
    clear hr
    go_enter Tryz.func42, Tryz.ntmps42
    go_wp2_with (go_at_call 72; refine (HC.out _).mono ?_; rintro e w1 ⟨rfl, rfl⟩)
    go_ret
    have hB := Blk.new (w.alloc (.cells #[.slice none 0 0, .int .i64 0, .int .i64 rm] 140)) 120 #[.pointer (some ⟨w.heap.size, 0, none⟩)]
    rw [World.size_alloc] at hB
    refine ⟨_, fun k => k = w.heap.size ∨ k = w.heap.size + 1, rfl, ⟨.inr ⟨w.heap.size + 1, w.heap.size, .slice none 0 0, [], 0, rm, rfl, rfl, by omega, by omega, hB, (HN.out w).call (by go_grown), .inr rfl, by omega, by simp [Value.ownBlock], ?_, rfl⟩, ?_⟩, ?_, by go_grown⟩
    · rintro k (rfl | hk)
      · exact .inl rfl
      · simp [Value.ownBlock] at hk
    · rintro k (rfl | rfl) <;> (simp; try omega)
    · rintro k (rfl | rfl) <;> omega
theorem history_kept (p : Option Addr) (F : Nat → Prop) (xs : List Adv) (room : Int) (w : World) (h : HistAt w p F xs room) :
    Calls Tryz.prog 84 #[.pointer p] w fun e w' => ∃ q, e = .returned (.pointer q) ∧ w = w' ∧ RingOf w q p F xs room := by
  rcases h.1 with ⟨rfl, e2⟩ | ⟨hh, g, v, ph, fr, rm, rfl, e2, e3, e4, e5, rest⟩
  · have HE := Lib.hid e2
    clear e2 h
    go_enter Tryz.func84, Tryz.ntmps84
    go_wp2
    go_ret
    exact ⟨none, rfl, rfl, .inl ⟨rfl, rfl, HE.out⟩⟩
  · have c0 := e5.cellv (i := 0) rfl
    have HE := Lib.hid (show RingOf w (some ⟨g, 0, none⟩) (some ⟨hh, 0, none⟩) F xs room from .inr ⟨hh, g, v, ph, fr, rm, rfl, rfl, e2, e3, e4, e5, rest⟩)
    clear e2 e3 e4 e5 rest
    go_enter Tryz.func84, Tryz.ntmps84
    go_wp2
    go_ret
    exact ⟨_, rfl, rfl, HE.out⟩
theorem RingOf.ringV {w : World} {q p : Option Addr} {F : Nat → Prop} {xs : List Adv} {room : Int} (h : RingOf w q p F xs room) : RingV w q w.heap.size xs := by
  rcases h with ⟨-, rfl, rfl, -⟩ | ⟨h, g, v, ph, fr, rm, rfl, -, -, e3, e4, e5, e6, e7, e8, e9, e10, rfl⟩
  · exact .inl ⟨rfl, rfl⟩
  · exact .inr ⟨g, v, ph, fr, rm, rfl, e6, by omega, e6.lt, rfl⟩
theorem history_List (p : Option Addr) (F : Nat → Prop) (xs : List Adv) (room : Int) (w : World) (h : HistAt w p F xs room) :
    Calls Tryz.prog 61 #[.pointer p] w fun e w' => ∃ v, e = .returned v ∧ OwnA w' w.heap.size v xs ∧ Below w.heap.size w w' := by
  have HH := Lib.hid h
  clear h
  go_enter Tryz.func61, Tryz.ntmps61
  go_wp2_with (first | (go_at_call 84; refine (history_kept p F xs room _ HH.out).mono ?_; rintro e w1 ⟨q, rfl, rfl, hq⟩; have HQ := Lib.hid hq.ringV; clear hq) | (go_at_call 96; refine (ring_List q xs _ HQ.out).mono ?_; rintro e w2 ⟨v, rfl, hv⟩; have HV := Lib.hid hv; clear hv))
  go_ret
  exact ⟨v, rfl, HV.out⟩
/-- Behind a push. -/
def PushPost (q p : Option Addr) (F : Nat → Prop) (xs : List Adv) (room : Int) (x : Adv) (w : World) (e : Ending) (w' : World) : Prop := ∃ y b F' q2, e = .returned (.tuple #[.agg y, .bool b]) ∧ RingOf w' q2 p F' (hush xs room x) room ∧ q2 = q ∧ (∀ k, F' k → k < w'.heap.size) ∧ Upd F w w' ∧ ∀ k, F' k → F k ∨ w.heap.size ≤ k
theorem ring_Push (q p : Option Addr) (F : Nat → Prop) (xs : List Adv) (room : Int) (x : Adv) (w : World) (hq : RingOf w q p F xs room) (hF : ∀ k, F k → k < w.heap.size) :
    Calls Tryz.prog 85 #[.pointer q, .agg (rowA x)] w (PushPost q p F xs room x w) := by
  rcases hq with ⟨rfl, rfl, rfl, hr⟩ | ⟨h, g, v, ph, fr, rm, rfl, rfl, rfl, e3, e4, e5, e6, e7, e8, e9, e10, rfl⟩
  · refine (ring_Push_nil x w).mono ?_
    rintro e w' ⟨rfl, hb⟩
    refine ⟨_, _, F, none, rfl, .inl ⟨rfl, rfl, ?_, hr⟩, rfl, fun k hk => Nat.lt_of_lt_of_le (hF k hk) hb.size, Upd.of_below hb, fun k hk => .inl hk⟩
    unfold hush; rw [if_neg (by omega)]
  · have key : ∀ ph' fr' e w', RingPost g v ph' fr' rm w e w' → ringq ph' fr' = pushq (ringq ph fr) rm x → PushPost (some ⟨g, 0, none⟩) (some ⟨h, 0, none⟩) F (ringq ph fr) rm x w e w' := by
      rintro ph' fr' e w' ⟨v', y, b, rfl, p1, p2, p3⟩ hpq
      have hnf : ¬ foot g v h := by
        rintro (rfl | hk)
        · exact e8 rfl
        · exact e9 hk
      have hn2 : ¬ foot g v' h := fun hf => by
        rcases p3 h hf with h1 | h1
        · exact hnf h1
        · have := e5.lt; omega
      refine ⟨y, b, fun k => F k ∨ foot g v' k, _, rfl, .inr ⟨h, g, v', ph', fr', rm, rfl, rfl, rfl, e3, e4, e5.upd p2 hnf, p1, .inl e7, e8, fun hk => hn2 (.inr hk), fun k hk => .inr hk, ?_⟩, rfl, ?_, p2.mono e10, ?_⟩
      · unfold hush; rw [if_pos (by omega), hpq]; simp
      · rintro k (hk | hk)
        · exact Nat.lt_of_lt_of_le (hF k hk) p2.size
        · exact p1.lt k hk
      · rintro k (hk | hk)
        · exact .inl hk
        · exact (p3 k hk).imp (e10 k) id
    by_cases hl : ph.length < rm
    · exact (ring_Push_room g v ph fr rm x w e6 (by omega) hl).mono fun e w' hp => key _ _ e w' hp (ring_room e6.2.2.2 hl x).2
    · have hl2 : ph.length = rm := by have := e6.2.2.2.1; omega
      exact (ring_Push_full g v ph fr rm x w e6 (by omega) hl2).mono fun e w' hp => key _ _ e w' hp (ring_full e6.2.2.2 hl2 x).2
def AddPost (p : Option Addr) (F : Nat → Prop) (xs : List Adv) (room : Int) (x : Adv) (w : World) (e : Ending) (w' : World) : Prop := ∃ F', e = .returned (.bool (decide (1 ≤ room ∧ room ≤ 64))) ∧ HistAt w' p F' (hush xs room x) room ∧ Upd F w w' ∧ ∀ k, F' k → F k ∨ w.heap.size ≤ k
theorem RingOf.hist {w : World} {q p : Option Addr} {F : Nat → Prop} {xs : List Adv} {room : Int} (h : RingOf w q p F xs room) (hF : ∀ k, F k → k < w.heap.size) : HistAt w p F xs room := by
  refine ⟨?_, hF⟩
  rcases h with ⟨h1, -, h2⟩ | ⟨h, g, v, ph, fr, rm, -, rest⟩
  · exact .inl ⟨h1, h2⟩
  · exact .inr ⟨h, g, v, ph, fr, rm, rest⟩
theorem RingOf.upd {S F : Nat → Prop} {w w' : World} {q p : Option Addr} {xs : List Adv} {room : Int} (h : RingOf w q p F xs room) (hu : Upd S w w') (hn : ∀ k, F k → ¬ S k) : RingOf w' q p F xs room := by
  rcases h with h | ⟨h, g, v, ph, fr, rm, e0, e1, e2, e3, e4, e5, e6, e7, e8, e9, e10, e11⟩
  · exact .inl h
  · exact .inr ⟨h, g, v, ph, fr, rm, e0, e1, e2, e3, e4, e5.upd hu (hn _ e7), e6.upd hu (fun k hk => hn k (e10 k hk)), e7, e8, e9, e10, e11⟩
/-- How many a ring has: some, behind a push, just where there is room. -/
theorem ring_Len_of (q p : Option Addr) (F : Nat → Prop) (xs : List Adv) (room : Int) (w : World) (hq : RingOf w q p F xs room) :
    Calls Tryz.prog 86 #[.pointer q] w fun e w' => e = .returned (.int .i64 xs.length) ∧ w = w' := by
  rcases hq with ⟨rfl, rfl, rfl, hr⟩ | ⟨h, g, v, ph, fr, rm, rfl, rfl, rfl, e3, e4, e5, e6, e7, e8, e9, e10, rfl⟩
  · exact ring_Len_nil w
  · rw [ringq_len ph fr rm e6.2.2.2]; exact ring_Len g v ph fr rm w e6
theorem hush_some {w : World} {q p : Option Addr} {F : Nat → Prop} {xs : List Adv} {room : Int} (h : RingOf w q p F xs room) (x : Adv) : decide (0 < (hush xs room x).length) = decide (1 ≤ room ∧ room ≤ 64) := by
  unfold hush
  split
  · rename_i hr
    obtain ⟨rm, rfl⟩ : ∃ rm : Nat, room = rm := ⟨room.toNat, by omega⟩
    have hl : xs.length ≤ rm := by
      rcases h with ⟨-, -, rfl, h⟩ | ⟨h, g, v, ph, fr, rm', -, -, e2, e3, e4, e5, e6, e7, e8, e9, e10, rfl⟩
      · simp
      · rw [ringq_len ph fr rm' e6.2.2.2]; have := e6.2.2.2.1; omega
    have h1 := (push_len (x := x) hl (by omega)).2
    rw [Int.toNat_natCast, decide_eq_true (show 0 < (pushq xs rm x).length by omega), decide_eq_true hr]
  · rename_i hr
    rw [decide_eq_false hr]
    rfl
theorem history_Add (p : Option Addr) (F : Nat → Prop) (xs : List Adv) (room : Int) (x : Adv) (w : World) (h : HistAt w p F xs room) :
    Calls Tryz.prog 58 #[.pointer p, .agg (rowA x)] w (AddPost p F xs room x w) := by
  have HH := Lib.hid (h.call (show Below w.heap.size w (w.alloc (.cells (rowA x) 68)) by go_grown))
  have HF := Lib.hid h.2
  clear h
  go_enter Tryz.func58, Tryz.ntmps58
  go_wp2_with (first | (go_at_call 84; refine (history_kept p F xs room _ HH.out).mono ?_; rintro e w1 ⟨q, rfl, rfl, hq⟩; have HQ := Lib.hid hq; clear hq) | (go_at_call 85; refine (ring_Push q p F xs room x _ HQ.out HH.out.2).mono ?_; rintro e w2 ⟨y, b, F', q2, rfl, hp1, rfl, hp2⟩; have P1 := Lib.hid hp1; have P2 := Lib.hid hp2; clear hp1 hp2) | (go_at_call 86; refine (ring_Len_of _ p F' _ room _ P1.out).mono ?_; rintro e w3 ⟨rfl, rfl⟩))
  go_ret
  refine ⟨F', ?_, P1.out.hist P2.out.1, ?_, ?_⟩
  · rw [hush_some HQ.out x]
    rfl
  · exact (Upd.of_below (by go_grown)).trans P2.out.2.1 (fun k hk => .inl hk)
  · exact fun k hk => (P2.out.2.2 k hk).imp id (fun h => by simp at h; omega)
end Go.Proofs.YtjodpffdlggjgaaGreat
